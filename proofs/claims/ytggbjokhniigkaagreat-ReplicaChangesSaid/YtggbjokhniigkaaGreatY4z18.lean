/- Texts laid together: Sa, Ta, Tt, Ua. No condition. -/
import Derived.Defers
import Derived.Recover
import Derived.Laws.Pointers
import Derived.KernelRfl
import Derived.Deep.RegionHeld3
import Derived.Test.YtggbjokhniigkaaGreatY4z16
import Derived.Test.YtggbjokhniigkaaGreatY4z17
namespace Go.Proofs.YtggbjokhniigkaaGreat.Sa
open Go.Proofs.YtggbjokhniigkaaGreat.Ty Go.RowKit Go.Proofs.YtggbjokhniigkaaGreatW.PrintWords Go.Proofs.YtggbjokhniigkaaGreatW.PrintLast Go.Proofs.YtggbjokhniigkaaGreatW.PrintMore Go.Proofs.YtggbjokhniigkaaGreat.Mx Go.Proofs.YtggbjokhniigkaaGreat.Kx Go.Proofs.YtggbjokhniigkaaGreat.Wa Go.Proofs.YtggbjokhniigkaaGreat.Wb Go.Proofs.YtggbjokhniigkaaGreat.We Go.Proofs.YtggbjokhniigkaaGreat.Ra Go.Proofs.YtggbjokhniigkaaGreat.Rb
set_option linter.unusedVariables false
set_option linter.unusedSimpArgs false
section
variable {P : Program} {ops : Array Oper} {rest : List Oper} {o : Oper} {a : Act} {Q : Exit → Act → World → Prop} {α : Type}
/-- make([]T, n). -/
theorem Mem.make (d : Kd α) {w0 W : World} {rs : List Res} (hM : Mem w0 W rs) (e : Nat) (hgd : o.guard = none) {N : Tmp} (hd : o.dst = some N) (t : TypeId) (x y : Operand) (ho : o.op = .makeSlice t x y) (n : Int) (hx : a.eval x = .int .i64 n) (hy : a.eval y = .int .i64 n)
    (ht : P.underlying t = some (.slice e)) (z : Value) (bytes : Nat) (hinfo : (P.info? e).map (fun i => (i.zero, i.size, i.bytes)) = some (some z, d.sz, bytes)) (hz : z.cells.size = d.sz) (hs0 : 0 < d.sz) (hb0 : 0 < bytes)
    (z0 : α) (hzero : ∀ w b, d.M w b (fun _ => False) z0 z.cells.toList) (h0 : 0 ≤ n) (hl : n.toNat * bytes ≤ 281474976710656) (ys : List α) (hys : List.replicate n.toNat z0 = ys)
    (h : ∀ v1 w1, Mem w0 w1 (row d e v1 ys :: rs) → wpList P ops Q rest (a.put o.dst v1) w1) : wpList P ops Q (o :: rest) a W := by
  subst hys
  refine Kd.R_make d (w0 := W) W.heap.size e hgd hd t x y ho n hx hy ht z bytes hinfo hz hs0 hb0 z0 (ok := fun k => W.heap.size ≤ k) (okp := fun _ => False) (hzero _ _) (fun _ hk => hk.elim) (Nat.le_refl _) h0 hl (Below.refl _ _) (Nat.le_refl _) ?_
  intro v1 w1 hr hb _ _
  exact h v1 w1 (hM.fresh hb hr)
end
theorem C_none {α : Type} {w : World} (d : Kd α) : Kd.C d w none ([] : List α).length [] := ⟨rfl, Nat.zero_le _, fun h => absurd h (Nat.lt_irrefl 0)⟩
theorem reps_int_one (i : Int) : Reps (fun (x : Int) c => ∀ w, (Kd.int .i64).M w 0 (fun _ => False) x c) (Kd.int .i64).sz [i] [.int .i64 i] := (Reps.none _ _).snoc (p := i) (c := [.int .i64 i]) (fun _ => rfl) rfl
def qc (i n vw nr hw : Int) (vl : Value) (cm : Int) (va vv vo vb : Value) (bv bd : Int) : Array Value := #[.int .i64 i, .int .i64 n, .int .i64 vw, .int .i64 nr, .int .i64 hw, vl, .int .i64 cm, va, vv, vo, vb, .int .i64 bv, .int .i64 bd]
set_option maxRecDepth 100000 in
set_option maxHeartbeats 4000000 in
theorem clear_calls (w0 w : World) (F : List Res) (g : Nat) (i n vw nr hw : Int) (vl : Value) (cm : Int) (va vv vo vb : Value) (bv bd : Int) (vout : Value)
    (hM : Mem w0 w (blk g 95 (Wa.wc i n vw nr hw vl cm va vv vo vb bv bd vout) :: F)) :
    Calls Tryz.prog 122 #[.pointer (some ⟨g, 0, none⟩)] w fun e w' => e = .returned (.tuple #[]) ∧ Mem w0 w' (blk g 95 (Wa.wc i n vw nr hw vl cm va (.slice none 0 0) (.slice none 0 0) (.slice none 0 0) (-1) 0 vout) :: F) := by
  have cG := blk_cell (hM.blk_at 0 rfl)
  have fG := blk_frozen (hM.blk_at 0 rfl)
  have hg := blk_lt (hM.blk_at 0 rfl)
  unfold Wa.wc at cG
  have M0 := Aside0.mk hM
  clear hM
  go_enter Tryz.func122, Tryz.ntmps122
  go_wp2
  go_end0
  exact ⟨rfl, ((((M0.out.set 0 rfl 8 (.slice none 0 0)).set 0 rfl 9 (.slice none 0 0)).set 0 rfl 10 (.slice none 0 0)).set 0 rfl 11 (.int .i64 (-1))).set 0 rfl 12 (.int .i64 0)⟩
set_option maxRecDepth 100000 in
set_option maxHeartbeats 4000000 in
theorem clear11_calls (w0 w : World) (F : List Res) (g : Nat) (i n vw nr hw : Int) (vl : Value) (cm : Int) (va vv vo vb : Value) (bv bd : Int)
    (hM : Mem w0 w (blk g 25 (qc i n vw nr hw vl cm va vv vo vb bv bd) :: F)) :
    Calls Tryz.prog 117 #[.pointer (some ⟨g, 0, none⟩)] w fun e w' => e = .returned (.tuple #[]) ∧ Mem w0 w' (blk g 25 (qc i n vw nr hw vl cm va (.slice none 0 0) (.slice none 0 0) (.slice none 0 0) (-1) 0) :: F) := by
  have cG := blk_cell (hM.blk_at 0 rfl)
  have fG := blk_frozen (hM.blk_at 0 rfl)
  have hg := blk_lt (hM.blk_at 0 rfl)
  unfold qc at cG
  have M0 := Aside0.mk hM
  clear hM
  go_enter Tryz.func117, Tryz.ntmps117
  go_wp2
  go_end0
  exact ⟨rfl, ((((M0.out.set 0 rfl 8 (.slice none 0 0)).set 0 rfl 9 (.slice none 0 0)).set 0 rfl 10 (.slice none 0 0)).set 0 rfl 11 (.int .i64 (-1))).set 0 rfl 12 (.int .i64 0)⟩
set_option maxRecDepth 100000 in
set_option maxHeartbeats 4000000 in
theorem acked_calls (w0 w : World) (F : List Res) (g : Nat) (i n vw nr hw : Int) (A5 : Option Addr) (n5 c5 : Nat) (cm : Int) (va vv vo vb : Value) (bv bd : Int) (vout : Value)
    (hM : Mem w0 w (blk g 95 (Wa.wc i n vw nr hw (.slice A5 n5 c5) cm va vv vo vb bv bd vout) :: F)) (hi0 : 0 ≤ i) (hi1 : i < n) (hn5 : n ≤ 5) :
    Calls Tryz.prog 123 #[.pointer (some ⟨g, 0, none⟩)] w fun e w' => ∃ va' : Value, e = .returned (.tuple #[]) ∧ Mem w0 w' (blk g 95 (Wa.wc i n vw nr hw (.slice A5 n5 c5) cm va' vv vo vb bv bd vout) :: row (Kd.int .i64) 3 va' ((List.replicate n.toNat 0).set i.toNat (n5 : Int)) :: F) := by
  have cG := blk_cell (hM.blk_at 0 rfl)
  have fG := blk_frozen (hM.blk_at 0 rfl)
  have hg := blk_lt (hM.blk_at 0 rfl)
  unfold Wa.wc at cG
  have M0 := Aside0.mk hM
  clear hM
  obtain ⟨ys, hys⟩ : ∃ ys, List.replicate n.toNat (0 : Int) = ys := ⟨_, rfl⟩
  have hl : ys.length = n.toNat := by rw [← hys, List.length_replicate]
  have HL := Aside0.mk hl
  have HY := Aside0.mk hys
  clear hl hys
  go_enter Tryz.func123, Tryz.ntmps123
  go_upto_region 0 with (fail)
  go_cut [] (fun wx => ∃ (g7 k7 : Nat), Aside0 (Mem w0 wx (row (Kd.int .i64) 3 (.slice (some ⟨g7, 0, none⟩) ys.length k7) ys :: blk g 95 (Wa.wc i n vw nr hw (.slice A5 n5 c5) cm (.slice (some ⟨g7, 0, none⟩) ys.length k7) vv vo vb bv bd vout) :: F)))
  case first =>
    go_wp2_with ((with_reducible refine gate_dst (N := 8) rfl ?_); refine Mem.make (Kd.int .i64) M0.out 3 rfl (N := 8) rfl 23 (.tmp 7) (.tmp 7) rfl n rfl rfl Tryz.underlying23 (.int .i64 0) 8 infoInt rfl (by decide) (by omega) 0 (fun _ _ => rfl) (by omega) (by omega) ys HY.out ?_; intro v1 w1 hM1; obtain ⟨g7, k7, he, hg7⟩ := hM1.int_form 0 rfl (by have := HL.out; omega); subst he; have M1 := Aside0.mk hM1; clear hM1; have cG1 := blk_cell (M1.out.blk_at 1 rfl); have fG1 := blk_frozen (M1.out.blk_at 1 rfl); have hg1 := blk_lt (M1.out.blk_at 1 rfl); unfold Wa.wc at cG1)
    go_meet
    case rel => exact ⟨g7, k7, ⟨M1.out.set 1 rfl 7 (.slice (some ⟨g7, 0, none⟩) ys.length k7)⟩⟩
  case rest =>
    obtain ⟨g7, k7, M1⟩ := hcut
    clear cG fG hg M0
    have cG := blk_cell (M1.out.blk_at 1 rfl)
    unfold Wa.wc at cG
    have hi2 : i < (ys.length : Int) := by have := HL.out; omega
    have x7 := (M1.out.int_cell 0 rfl i hi0 hi2).1
    have y7 := (M1.out.int_cell 0 rfl i hi0 hi2).2
    have hi3 : (i < (ys.length : Int)) = True := eq_true hi2
    go_upto_region 1 with (fail)
    go_region
    all_goals
      go_end0
      first | refine ⟨.slice (some ⟨g7, 0, none⟩) ys.length k7, rfl, ?_⟩ | refine ⟨rfl, .slice (some ⟨g7, 0, none⟩) ys.length k7, ?_⟩
      rw [HY.out]
      exact Mem.sel (ps := [_, _]) (F := F) [1, 0] 2 (M1.out.drew.int_put 0 rfl i (n5 : Int)) rfl rfl
set_option maxRecDepth 100000 in
set_option maxHeartbeats 4000000 in
theorem acked11_calls (w0 w : World) (F : List Res) (g : Nat) (i n vw nr hw : Int) (A5 : Option Addr) (n5 c5 : Nat) (cm : Int) (va vv vo vb : Value) (bv bd : Int)
    (hM : Mem w0 w (blk g 25 (qc i n vw nr hw (.slice A5 n5 c5) cm va vv vo vb bv bd) :: F)) (hi0 : 0 ≤ i) (hi1 : i < n) (hn5 : n ≤ 5) :
    Calls Tryz.prog 124 #[.pointer (some ⟨g, 0, none⟩)] w fun e w' => ∃ va' : Value, e = .returned (.tuple #[]) ∧ Mem w0 w' (blk g 25 (qc i n vw nr hw (.slice A5 n5 c5) cm va' vv vo vb bv bd) :: row (Kd.int .i64) 3 va' ((List.replicate n.toNat 0).set i.toNat (n5 : Int)) :: F) := by
  have cG := blk_cell (hM.blk_at 0 rfl)
  have fG := blk_frozen (hM.blk_at 0 rfl)
  have hg := blk_lt (hM.blk_at 0 rfl)
  unfold qc at cG
  have M0 := Aside0.mk hM
  clear hM
  obtain ⟨ys, hys⟩ : ∃ ys, List.replicate n.toNat (0 : Int) = ys := ⟨_, rfl⟩
  have hl : ys.length = n.toNat := by rw [← hys, List.length_replicate]
  have HL := Aside0.mk hl
  have HY := Aside0.mk hys
  clear hl hys
  go_enter Tryz.func124, Tryz.ntmps124
  go_upto_region 0 with (fail)
  go_cut [] (fun wx => ∃ (g7 k7 : Nat), Aside0 (Mem w0 wx (row (Kd.int .i64) 3 (.slice (some ⟨g7, 0, none⟩) ys.length k7) ys :: blk g 25 (qc i n vw nr hw (.slice A5 n5 c5) cm (.slice (some ⟨g7, 0, none⟩) ys.length k7) vv vo vb bv bd) :: F)))
  case first =>
    go_wp2_with ((with_reducible refine gate_dst (N := 7) rfl ?_); refine Mem.make (Kd.int .i64) M0.out 3 rfl (N := 7) rfl 23 (.tmp 6) (.tmp 6) rfl n rfl rfl Tryz.underlying23 (.int .i64 0) 8 infoInt rfl (by decide) (by omega) 0 (fun _ _ => rfl) (by omega) (by omega) ys HY.out ?_; intro v1 w1 hM1; obtain ⟨g7, k7, he, hg7⟩ := hM1.int_form 0 rfl (by have := HL.out; omega); subst he; have M1 := Aside0.mk hM1; clear hM1; have cG1 := blk_cell (M1.out.blk_at 1 rfl); have fG1 := blk_frozen (M1.out.blk_at 1 rfl); have hg1 := blk_lt (M1.out.blk_at 1 rfl); unfold qc at cG1)
    go_meet
    case rel => exact ⟨g7, k7, ⟨M1.out.set 1 rfl 7 (.slice (some ⟨g7, 0, none⟩) ys.length k7)⟩⟩
  case rest =>
    obtain ⟨g7, k7, M1⟩ := hcut
    clear cG fG hg M0
    have cG := blk_cell (M1.out.blk_at 1 rfl)
    unfold qc at cG
    have hi2 : i < (ys.length : Int) := by have := HL.out; omega
    have x7 := (M1.out.int_cell 0 rfl i hi0 hi2).1
    have y7 := (M1.out.int_cell 0 rfl i hi0 hi2).2
    have hi3 : (i < (ys.length : Int)) = True := eq_true hi2
    go_upto_region 1 with (fail)
    go_region
    all_goals
      go_end0
      first | refine ⟨.slice (some ⟨g7, 0, none⟩) ys.length k7, rfl, ?_⟩ | refine ⟨rfl, .slice (some ⟨g7, 0, none⟩) ys.length k7, ?_⟩
      rw [HY.out]
      exact Mem.sel (ps := [_, _]) (F := F) [1, 0] 2 (M1.out.drew.int_put 0 rfl i (n5 : Int)) rfl rfl
set_option maxRecDepth 100000 in
set_option maxHeartbeats 4000000 in
theorem normal_calls (w0 w : World) (F : List Res) (g : Nat) (i n vw nr hw : Int) (vl : Value) (cm : Int) (va vv vo vb : Value) (bv bd : Int) (vout : Value) (view commit : Int) (A : Option Addr) (c : Nat) (l : List Entry)
    (hM : Mem w0 w (blk g 95 (Wa.wc i n vw nr hw vl cm va vv vo vb bv bd vout) :: F)) (hl : ∀ (w' : World) (b : Res), Mem w0 w' (b :: F) → kE.C w' A l.length l) (hn : l.length ≤ 1000000000) (hi0 : 0 ≤ i) (hi1 : i < n) (hn5 : n ≤ 5) (cx : Int) (hcx : (if n = 1 then (l.length : Int) else min (max cm commit) (l.length : Int)) = cx) :
    Calls Tryz.prog 120 #[.pointer (some ⟨g, 0, none⟩), .int .i64 view, .slice A l.length c, .int .i64 commit] w fun e w' => ∃ vl' va' : Value, e = .returned (.tuple #[]) ∧ Mem w0 w' (blk g 95 (Wa.wc i n view view 0 vl' cx va' (.slice none 0 0) (.slice none 0 0) (.slice none 0 0) (-1) 0 vout) :: row (Kd.int .i64) 3 va' ((List.replicate n.toNat 0).set i.toNat (l.length : Int)) :: row kE 68 vl' l :: F) := by
  have cG := blk_cell (hM.blk_at 0 rfl)
  have fG := blk_frozen (hM.blk_at 0 rfl)
  have hg := blk_lt (hM.blk_at 0 rfl)
  unfold Wa.wc at cG
  have M0 := Aside0.mk hM
  have HL := Aside0.mk hl
  have HN := Aside0.mk hn
  have HX := Aside0.mk hcx
  clear hM hl hcx
  go_enter Tryz.func120, Tryz.ntmps120
  go_wp2_with fail
  refine (clear_calls w0 _ F g i n view view 0 vl cm va vv vo vb bv bd vout (((M0.out.set 0 rfl 2 (.int .i64 view)).set 0 rfl 3 (.int .i64 view)).set 0 rfl 4 (.int .i64 0))).mono ?_
  rintro e w1 ⟨rfl, hM⟩
  have M1 := Aside0.mk hM
  clear hM M0 cG fG hg
  have cG := blk_cell (M1.out.blk_at 0 rfl)
  have fG := blk_frozen (M1.out.blk_at 0 rfl)
  have hg := blk_lt (M1.out.blk_at 0 rfl)
  unfold Wa.wc at cG
  go_wp2_with fail
  refine (entries_calls A c l _ (HL.out _ _ M1.out) HN.out).mono ?_
  rintro e w2 ⟨v, rfl, hM⟩
  have M2 := Aside0.mk (M1.out.trans hM)
  clear hM
  obtain ⟨B, d, rfl, hcB, _⟩ := M2.out.row_at 0 rfl
  clear M1 cG fG hg
  have cG := blk_cell (M2.out.blk_at 1 rfl)
  have fG := blk_frozen (M2.out.blk_at 1 rfl)
  have hg := blk_lt (M2.out.blk_at 1 rfl)
  unfold Wa.wc at cG
  go_upto_region 3 with (fail)
  have M3 := Aside0.mk (M2.out.set 1 rfl 5 (.slice B l.length d))
  go_cut [] (fun wx => ∃ cm1 : Int, Aside0 (cm1 = min (max cm commit) (l.length : Int)) ∧ Aside0 (Mem w0 wx (row kE 68 (.slice B l.length d) l :: blk g 95 (Wa.wc i n view view 0 (.slice B l.length d) cm1 va (.slice none 0 0) (.slice none 0 0) (.slice none 0 0) (-1) 0 vout) :: F)))
  case first =>
    go_region
    all_goals
      go_wp2_with fail
      all_goals
        go_meet
        case rel => exact ⟨_, ⟨by first | omega | (split <;> omega) | (split <;> split <;> omega)⟩, ⟨M3.out.drew.set 1 rfl 6 _⟩⟩
  case rest =>
    obtain ⟨cm1, HC1, M4⟩ := hcut
    clear M3 M2 cG fG hg
    have cG := blk_cell (M4.out.blk_at 1 rfl)
    have fG := blk_frozen (M4.out.blk_at 1 rfl)
    have hg := blk_lt (M4.out.blk_at 1 rfl)
    unfold Wa.wc at cG
    go_upto_if 53 with (fail)
    go_cut [] (fun wx => ∃ cm2 : Int, Aside0 (cm2 = if n = 1 then (l.length : Int) else cm1) ∧ Aside0 (Mem w0 wx (row kE 68 (.slice B l.length d) l :: blk g 95 (Wa.wc i n view view 0 (.slice B l.length d) cm2 va (.slice none 0 0) (.slice none 0 0) (.slice none 0 0) (-1) 0 vout) :: F)))
    case first =>
      by_cases h1 : n = 1
      · have hq : (n == 1) = true := by simpa using h1
        go_wp2_with fail
        go_meet
        case rel => exact ⟨(l.length : Int), ⟨by rw [if_pos h1]⟩, ⟨M4.out.set 1 rfl 6 (.int .i64 (l.length : Int))⟩⟩
      · have hq : (n == 1) = false := by simpa using h1
        go_wp2_with fail
        go_meet
        case rel => exact ⟨cm1, ⟨by rw [if_neg h1]⟩, M4⟩
    case rest =>
      obtain ⟨cm2, HC2, M5⟩ := hcut
      have hc3 : cm2 = cx := by rw [HC2.out, HC1.out, HX.out]
      subst hc3
      clear M4 HC1 HC2 cG fG hg
      go_wp2_with fail
      refine (acked_calls w0 _ (row kE 68 (.slice B l.length d) l :: F) g i n view view 0 B l.length d cm2 va (.slice none 0 0) (.slice none 0 0) (.slice none 0 0) (-1) 0 vout (Mem.sel (ps := [_, _]) (F := F) [1, 0] 2 M5.out rfl rfl) hi0 hi1 hn5).mono ?_
      rintro e w4 ⟨va', rfl, hM⟩
      have M7 := Aside0.mk hM
      clear hM
      go_wp2
      go_end0
      first | refine ⟨.slice B l.length d, va', rfl, ?_⟩ | refine ⟨rfl, .slice B l.length d, va', ?_⟩
      exact M7.out
set_option maxRecDepth 100000 in
set_option maxHeartbeats 4000000 in
theorem normal11_calls (w0 w : World) (F : List Res) (g : Nat) (i n vw nr hw : Int) (vl : Value) (cm : Int) (va vv vo vb : Value) (bv bd : Int) (view commit : Int) (A : Option Addr) (c : Nat) (l : List Entry)
    (hM : Mem w0 w (blk g 25 (qc i n vw nr hw vl cm va vv vo vb bv bd) :: F)) (hl : ∀ (w' : World) (b : Res), Mem w0 w' (b :: F) → kE.C w' A l.length l) (hn : l.length ≤ 1000000000) (hi0 : 0 ≤ i) (hi1 : i < n) (hn5 : n ≤ 5) (cx : Int) (hcx : (if n = 1 then (l.length : Int) else min (max cm commit) (l.length : Int)) = cx) :
    Calls Tryz.prog 116 #[.pointer (some ⟨g, 0, none⟩), .slice A l.length c, .int .i64 view, .int .i64 commit] w fun e w' => ∃ vl' va' : Value, e = .returned (.tuple #[]) ∧ Mem w0 w' (blk g 25 (qc i n view view 0 vl' cx va' (.slice none 0 0) (.slice none 0 0) (.slice none 0 0) (-1) 0) :: row (Kd.int .i64) 3 va' ((List.replicate n.toNat 0).set i.toNat (l.length : Int)) :: row kE 68 vl' l :: F) := by
  have cG := blk_cell (hM.blk_at 0 rfl)
  have fG := blk_frozen (hM.blk_at 0 rfl)
  have hg := blk_lt (hM.blk_at 0 rfl)
  unfold qc at cG
  have M0 := Aside0.mk hM
  have HL := Aside0.mk hl
  have HN := Aside0.mk hn
  have HX := Aside0.mk hcx
  clear hM hl hcx
  go_enter Tryz.func116, Tryz.ntmps116
  have M1 := Aside0.mk (show Mem w0 _ (blk g 25 (qc i n view view 0 vl cm va vv vo vb bv bd) :: F) from ((M0.out.set 0 rfl 2 (.int .i64 view)).set 0 rfl 3 (.int .i64 view)).set 0 rfl 4 (.int .i64 0))
  go_upto_region 4 with (((with_reducible refine gate_builtin (b := .append) (xs := #[.tmp 20, .tmp 21]) rfl ?_); at_builtin; refine Mem.app kE ((M1.out.allocAt #[] 68 w.heap.size (by simp)).lit 0 kE [] rfl (Reps.none _ _) (by decide)) 0 _ [] l rfl (.tmp 20) (.tmp 21) 22 68 _ _ rfl Tryz.underlying22 infoEntry rfl (by decide) (by omega) A _ c rfl rfl rfl (Kd.C_alloc (HL.out _ _ M1.out) _) (fun x cs h => h) (by have := HN.out; simp; omega) ?_; intro v w2 hM; have M2 := Aside0.mk (show Mem _ _ (row kE _ v l :: _) from hM); clear hM; obtain ⟨B, d, he, hcB, _⟩ := M2.out.row_at 0 rfl; subst he; clear cG fG hg; have cG := blk_cell (M2.out.blk_at 1 rfl); have fG := blk_frozen (M2.out.blk_at 1 rfl); have hg := blk_lt (M2.out.blk_at 1 rfl); unfold qc at cG))
  have M3 := Aside0.mk (M2.out.set 1 rfl 5 (.slice B l.length d))
  go_cut [] (fun wx => ∃ cm1 : Int, Aside0 (cm1 = min (max cm commit) (l.length : Int)) ∧ Aside0 (Mem w0 wx (row kE 68 (.slice B l.length d) l :: blk g 25 (qc i n view view 0 (.slice B l.length d) cm1 va vv vo vb bv bd) :: F)))
  case first =>
    go_region
    all_goals
      go_wp2_with fail
      all_goals
        go_meet
        case rel => exact ⟨_, ⟨by first | omega | (split <;> omega) | (split <;> split <;> omega)⟩, ⟨M3.out.drew.set 1 rfl 6 _⟩⟩
  case rest =>
    obtain ⟨cm1, HC1, M4⟩ := hcut
    clear M3 M2 cG fG hg
    have cG := blk_cell (M4.out.blk_at 1 rfl)
    have fG := blk_frozen (M4.out.blk_at 1 rfl)
    have hg := blk_lt (M4.out.blk_at 1 rfl)
    unfold qc at cG
    go_upto_if 44 with (fail)
    go_cut [] (fun wx => ∃ cm2 : Int, Aside0 (cm2 = if n = 1 then (l.length : Int) else cm1) ∧ Aside0 (Mem w0 wx (row kE 68 (.slice B l.length d) l :: blk g 25 (qc i n view view 0 (.slice B l.length d) cm2 va vv vo vb bv bd) :: F)))
    case first =>
      by_cases h1 : n = 1
      · have hq : (n == 1) = true := by simpa using h1
        go_wp2_with fail
        go_meet
        case rel => exact ⟨(l.length : Int), ⟨by rw [if_pos h1]⟩, ⟨M4.out.set 1 rfl 6 (.int .i64 (l.length : Int))⟩⟩
      · have hq : (n == 1) = false := by simpa using h1
        go_wp2_with fail
        go_meet
        case rel => exact ⟨cm1, ⟨by rw [if_neg h1]⟩, M4⟩
    case rest =>
      obtain ⟨cm2, HC2, M5⟩ := hcut
      have hc3 : cm2 = cx := by rw [HC2.out, HC1.out, HX.out]
      subst hc3
      clear M4 HC1 HC2 cG fG hg
      go_wp2_with fail
      refine (clear11_calls w0 _ (row kE 68 (.slice B l.length d) l :: F) g i n view view 0 (.slice B l.length d) cm2 va vv vo vb bv bd (Mem.sel (ps := [_, _]) (F := F) [1, 0] 2 M5.out rfl rfl)).mono ?_
      rintro e w3 ⟨rfl, hM⟩
      have M6 := Aside0.mk hM
      clear hM M5
      go_wp2_with fail
      refine (acked11_calls w0 _ (row kE 68 (.slice B l.length d) l :: F) g i n view view 0 B l.length d cm2 va (.slice none 0 0) (.slice none 0 0) (.slice none 0 0) (-1) 0 M6.out hi0 hi1 hn5).mono ?_
      rintro e w4 ⟨va', rfl, hM⟩
      have M7 := Aside0.mk hM
      clear hM
      go_wp2
      go_end0
      first | refine ⟨.slice B l.length d, va', rfl, ?_⟩ | refine ⟨rfl, .slice B l.length d, va', ?_⟩
      exact M7.out
set_option maxRecDepth 100000 in
set_option maxHeartbeats 4000000 in
theorem change_calls (w0 w : World) (F : List Res) (g : Nat) (i n vw nr hw : Int) (vl : Value) (cm : Int) (va vv vo vb : Value) (bv bd : Int) (vout : Value) (out : List Msg) (view : Int)
    (hM : Mem w0 w (blk g 95 (Wa.wc i n vw nr hw vl cm va vv vo vb bv bd vout) :: row kM 27 vout out :: F)) (hn0 : 0 < n) (hn5 : n ≤ 5) (ho : out.length ≤ 1000000) :
    Calls Tryz.prog 121 #[.pointer (some ⟨g, 0, none⟩), .int .i64 view] w fun e w' => ∃ vv' vout' : Value, e = .returned (.tuple #[]) ∧ Mem w0 w' (blk g 95 (Wa.wc i n view nr 1 vl cm va vv' (.slice none 0 0) (.slice none 0 0) (-1) 0 vout') :: row kM 27 vout' (out ++ allFrom i n view ⟨4, 0, 0, 0, 0, 0, 0, []⟩ n.toNat 0) :: row (Kd.int .i64) 3 vv' [i] :: F) := by
  have cG := blk_cell (hM.blk_at 0 rfl)
  have fG := blk_frozen (hM.blk_at 0 rfl)
  have hg := blk_lt (hM.blk_at 0 rfl)
  unfold Wa.wc at cG
  have M0 := Aside0.mk hM
  clear hM
  go_enter Tryz.func121, Tryz.ntmps121
  go_wp2_with fail
  refine (clear_calls w0 _ (row kM 27 vout out :: F) g i n view nr 1 vl cm va vv vo vb bv bd vout ((M0.out.set 0 rfl 2 (.int .i64 view)).set 0 rfl 4 (.int .i64 1))).mono ?_
  rintro e w1 ⟨rfl, hM⟩
  have M1 := Aside0.mk hM
  have M1a := Aside0.mk hM
  clear hM M0 cG fG hg
  have cG := blk_cell (M1a.out.blk_at 0 rfl)
  have fG := blk_frozen (M1a.out.blk_at 0 rfl)
  have hg := blk_lt (M1a.out.blk_at 0 rfl)
  unfold Wa.wc at cG
  have M2 := Aside0.mk (((M1.out.set 0 rfl 8 (.slice (some ⟨w1.heap.size, 0, none⟩) 1 1)).allocAt #[.int .i64 i] 3 w1.heap.size (by simp)).lit 0 (Kd.int .i64) [i] rfl (reps_int_one i) (by simp))
  go_wp2_with fail
  refine (all_calls w0 _ emp (row (Kd.int .i64) 3 (.slice (some ⟨w1.heap.size, 0, none⟩) 1 1) [i] :: F) g i n view nr 1 vl cm va (.slice (some ⟨w1.heap.size, 0, none⟩) 1 1) (.slice none 0 0) (.slice none 0 0) (-1) 0 vout out 4 0 0 0 0 0 0 none 0 [] (Mem.sel (ps := [_, _, _, _]) (F := F) [0, 2, 3, 1] 4 M2.out.cons_emp rfl rfl) (Rd.old (C_none kE)) (by simp) (by simp) ho hn0 hn5).mono ?_
  rintro e w2 ⟨vout', rfl, hM⟩
  go_wp2
  go_end0
  exact ⟨_, vout', rfl, Mem.sel (ps := [_, _, _, _]) (F := F) [1, 2, 3] 4 hM rfl rfl⟩
set_option maxRecDepth 100000 in
set_option maxHeartbeats 4000000 in
theorem change11_calls (w0 w : World) (F : List Res) (g : Nat) (i n vw nr hw : Int) (vl : Value) (cm : Int) (va vv vo vb : Value) (bv bd : Int) (view : Int)
    (hM : Mem w0 w (blk g 25 (qc i n vw nr hw vl cm va vv vo vb bv bd) :: F)) (hn0 : 0 < n) (hn5 : n ≤ 5) :
    Calls Tryz.prog 111 #[.pointer (some ⟨g, 0, none⟩), .int .i64 view] w fun e w' => ∃ vv' vout' : Value, e = .returned vout' ∧ Mem w0 w' (blk g 25 (qc i n view nr 1 vl cm va vv' (.slice none 0 0) (.slice none 0 0) (-1) 0) :: row kM 27 vout' (allFrom i n view ⟨4, 0, 0, 0, 0, 0, 0, []⟩ n.toNat 0) :: row (Kd.int .i64) 3 vv' [i] :: F) := by
  have cG := blk_cell (hM.blk_at 0 rfl)
  have fG := blk_frozen (hM.blk_at 0 rfl)
  have hg := blk_lt (hM.blk_at 0 rfl)
  unfold qc at cG
  have M0 := Aside0.mk hM
  clear hM
  go_enter Tryz.func111, Tryz.ntmps111
  go_wp2_with fail
  refine (clear11_calls w0 _ F g i n vw nr hw vl cm va vv vo vb bv bd M0.out).mono ?_
  rintro e w1 ⟨rfl, hM⟩
  have M1a := Aside0.mk hM
  have M1 := Aside0.mk (show Mem w0 _ (blk g 25 (qc i n view nr 1 vl cm va (.slice none 0 0) (.slice none 0 0) (.slice none 0 0) (-1) 0) :: F) from (hM.set 0 rfl 2 (.int .i64 view)).set 0 rfl 4 (.int .i64 1))
  clear hM M0 cG fG hg
  have cG := blk_cell (M1a.out.blk_at 0 rfl)
  have fG := blk_frozen (M1a.out.blk_at 0 rfl)
  have hg := blk_lt (M1a.out.blk_at 0 rfl)
  unfold qc at cG
  have M2 := Aside0.mk (((M1.out.set 0 rfl 8 (.slice (some ⟨w1.heap.size, 0, none⟩) 1 1)).allocAt #[.int .i64 i] 3 w1.heap.size (by simp)).lit 0 (Kd.int .i64) [i] rfl (reps_int_one i) (by simp))
  go_wp2_with fail
  refine (all11_calls w0 _ emp (row (Kd.int .i64) 3 (.slice (some ⟨w1.heap.size, 0, none⟩) 1 1) [i] :: F) g i n view nr 1 vl cm va (.slice (some ⟨w1.heap.size, 0, none⟩) 1 1) (.slice none 0 0) (.slice none 0 0) (-1) 0 4 0 0 0 0 0 0 none 0 [] (Mem.sel (ps := [_, _, _]) (F := F) [0, 2, 1] 3 M2.out.cons_emp rfl rfl) (Rd.old (C_none kE)) (by simp) (by simp) hn0 hn5).mono ?_
  rintro e w2 ⟨vout', rfl, hM⟩
  go_wp2
  go_ret
  exact ⟨_, vout', rfl, Mem.sel (ps := [_, _, _, _]) (F := F) [2, 0, 3] 4 hM rfl rfl⟩
end Go.Proofs.YtggbjokhniigkaaGreat.Sa
namespace Go.Proofs.YtggbjokhniigkaaGreat.Ta
open Go.Proofs.YtggbjokhniigkaaGreat.Ty Go.RowKit Go.Proofs.YtggbjokhniigkaaGreatW.PrintWords Go.Proofs.YtggbjokhniigkaaGreatW.PrintLast Go.Proofs.YtggbjokhniigkaaGreatW.PrintMore Go.Proofs.YtggbjokhniigkaaGreat.Mx Go.Proofs.YtggbjokhniigkaaGreat.Kx Go.Proofs.YtggbjokhniigkaaGreat.Wa
set_option linter.unusedVariables false
set_option linter.unusedSimpArgs false
set_option maxRecDepth 100000
theorem ta_nil (w : World) : (Instr.typeAssert Value.nilIface 20 124 true).run Tryz.prog w = .ok (.tuple #[.agg #[], .bool false]) w := by kernel_rfl
theorem ta_refusal (w : World) : (Instr.typeAssert (Value.iface 124 (.agg #[])) 20 124 true).run Tryz.prog w = .ok (.tuple #[.agg #[], .bool true]) w := by kernel_rfl
theorem catch_idle (p : Addr) (w : World) :
    CallsD Tryz.prog 102 #[.pointer (some p)] .returning w fun e u' w' =>
      e = .returned (.tuple #[]) ∧ u' = .returning ∧ Mem w w' [] := by
  refine callsD_of_wpS Tryz.func102 rfl fun c₀ cs hu => ?_
  apply wpS_seq
  apply wpS_region
  simp [wpOpsS, go_sem, recoverD, hu, Tryz.ntmps102, Exit.thenS, ta_nil]
  apply wpS_seq
  apply wpS_region
  simp [wpOpsS, go_sem, Exit.thenS]
  refine wpS_cond (t := false) (by simp [Act.eval, Array.replicate]) ?_
  simp only [Bool.false_eq_true, if_false]
  refine wpS_of_wp (wp_skip ?_)
  have hM : Mem w (w.alloc (Obj.cells #[] 124)) [] := Mem.sel (ps := [_]) (F := []) [] 1 ((Mem.nil w).alloc #[] 124) rfl rfl
  cases c₀
  simp_all [bodyPostS, results, Tryz.results102]
theorem catch_panicking (p : Addr) (older : List PanicEntry) (w : World) (x : Bool) (hc : w.cell? p = some (.bool x)) (hz : w.frozen? p = false) :
    CallsD Tryz.prog 102 #[.pointer (some p)] (.panicking ({ v := .iface 124 (.agg #[]), recovered := false } :: older)) w fun e u' w' =>
      e = .returned (.tuple #[]) ∧ u' = .panicking ({ v := .iface 124 (.agg #[]), recovered := true } :: older) ∧ ∃ w1, Mem w w1 [] ∧ w' = w1.setCell p (.bool false) := by
  refine callsD_of_wpS Tryz.func102 rfl fun c₀ cs hu => ?_
  apply wpS_seq
  apply wpS_region
  simp [wpOpsS, go_sem, recoverD, hu, Tryz.ntmps102, Exit.thenS, ta_refusal]
  apply wpS_seq
  apply wpS_region
  simp [wpOpsS, go_sem, Exit.thenS]
  refine wpS_cond (t := true) (by simp [Act.eval, Array.replicate]) ?_
  simp only [if_true]
  have hM : Mem w (w.alloc (Obj.cells #[] 124)) [] := Mem.sel (ps := [_]) (F := []) [] 1 ((Mem.nil w).alloc #[] 124) rfl rfl
  have hlt := World.block_lt_of_cell? w p hc
  have hc' : (w.alloc (Obj.cells #[] 124)).cell? p = some (.bool x) := (hM.below.cell hlt).trans hc
  have hz' : (w.alloc (Obj.cells #[] 124)).frozen? p = false := (hM.below.frozen hlt).trans hz
  apply wpS_region
  simp [wpOpsS, go_sem, hc', hz', bodyPostS, results, Tryz.results102]
  exact ⟨_, hM, rfl⟩
end Go.Proofs.YtggbjokhniigkaaGreat.Ta
namespace Go.Proofs.YtggbjokhniigkaaGreat.Tt
open Go.Proofs.YtggbjokhniigkaaGreat.Ty Go.RowKit Go.Proofs.YtggbjokhniigkaaGreatW.PrintWords Go.Proofs.YtggbjokhniigkaaGreatW.PrintLast Go.Proofs.YtggbjokhniigkaaGreatW.PrintMore Go.Proofs.YtggbjokhniigkaaGreat.Mx Go.Proofs.YtggbjokhniigkaaGreat.Kx Go.Proofs.YtggbjokhniigkaaGreat.Wa Go.Proofs.YtggbjokhniigkaaGreat.Wb Go.Proofs.YtggbjokhniigkaaGreat.Ta Go.Proofs.YtggbjokhniigkaaGreat.Tb
set_option linter.unusedVariables false
set_option linter.unusedSimpArgs false
set_option maxRecDepth 100000 in
set_option maxHeartbeats 8000000 in
theorem takes_no (w0 w : World) (F : List Res) (g : Nat) (r : Rep) (m : Msg) (v5 v7 v8 v9 v10 vout : Value) (A : Option Addr) (c : Nat) (hk : 1 ≤ m.f0) (hk8 : m.f0 ≤ 8) (hm : mayM r m = false)
    (hM : Mem w0 w (blk g 95 (Wa.wc r.f0 r.f1 r.f2 r.f3 r.f4 v5 r.f6 v7 v8 v9 v10 r.f11 r.f12 vout) :: row kM 27 vout [] :: row kE 68 v5 r.f5 :: row (Kd.int .i64) 3 v7 r.f7 :: row (Kd.int .i64) 3 v8 r.f8 :: row (Kd.int .i64) 3 v9 r.f9 :: row kE 68 v10 r.f10 :: F)) (hl : Kd.C kE w0 A m.f7.length m.f7) (hn : m.f7.length ≤ 1000000000) :
    Calls Tryz.prog 65 #[.pointer (some ⟨g, 0, none⟩), .agg #[.int .i64 m.f0, .int .i64 m.f1, .int .i64 m.f2, .int .i64 m.f3, .int .i64 m.f4, .int .i64 m.f5, .int .i64 m.f6, .slice A m.f7.length c]] w fun e w' => e = .returned (.bool false) ∧ Mem w0 w' (blk g 95 (Wa.wc r.f0 r.f1 r.f2 r.f3 r.f4 v5 r.f6 v7 v8 v9 v10 r.f11 r.f12 vout) :: row kM 27 vout [] :: row kE 68 v5 r.f5 :: row (Kd.int .i64) 3 v7 r.f7 :: row (Kd.int .i64) 3 v8 r.f8 :: row (Kd.int .i64) 3 v9 r.f9 :: row kE 68 v10 r.f10 :: F) := by
  have hmf : ∀ (fn : Fn) (first cap : Array Value) (w : World), (Instr.makeFunc fn first cap).run Tryz.prog w = .ok (.func fn first cap) w := fun _ _ _ _ => rfl
  obtain ⟨B5, d5, rfl, _, _⟩ := hM.row_at 2 rfl
  obtain ⟨B7, d7, rfl, _, _⟩ := hM.row_at 3 rfl
  obtain ⟨B8, d8, rfl, _, _⟩ := hM.row_at 4 rfl
  obtain ⟨B9, d9, rfl, _, _⟩ := hM.row_at 5 rfl
  obtain ⟨B10, d10, rfl, _, _⟩ := hM.row_at 6 rfl
  have HL := Aside0.mk hl
  have HN := Aside0.mk hn
  have HMC : Aside0 (∀ w', Kd.C kE w' A m.f7.length m.f7 → Calls Tryz.prog 110 #[.agg #[.int .i64 r.f0, .int .i64 r.f1, .int .i64 r.f2, .int .i64 r.f3, .int .i64 r.f4, .slice B5 r.f5.length d5, .int .i64 r.f6, .slice B7 r.f7.length d7, .slice B8 r.f8.length d8, .slice B9 r.f9.length d9, .slice B10 r.f10.length d10, .int .i64 r.f11, .int .i64 r.f12], .agg #[.int .i64 m.f0, .int .i64 m.f1, .int .i64 m.f2, .int .i64 m.f3, .int .i64 m.f4, .int .i64 m.f5, .int .i64 m.f6, .slice A m.f7.length c]] w' fun e w'' => e = .returned (.bool false) ∧ Mem w' w'' []) :=
    ⟨fun w' h => by have := mayM_calls r m B5 B7 B8 B9 B10 A d5 d7 d8 d9 d10 c w' h hn; rw [hm] at this; exact this⟩
  have k1 : decide (m.f0 < 1) = false := by simp; omega
  have k2 : decide (9 ≤ m.f0) = false := by simp; omega
  have M1 := Aside0.mk (((hM.alloc #[.int .i64 m.f0, .int .i64 m.f1, .int .i64 m.f2, .int .i64 m.f3, .int .i64 m.f4, .int .i64 m.f5, .int .i64 m.f6, .slice A m.f7.length c] 27).allocAt #[.bool false] 4 (w.heap.size + 1) (by simp)).allocAt #[.nilFunc, .func (Fn.func 103) #[.pointer (some ⟨g, 0, none⟩)] #[], .func (Fn.func 104) #[.pointer (some ⟨g, 0, none⟩)] #[], .func (Fn.func 103) #[.pointer (some ⟨g, 0, none⟩)] #[], .func (Fn.func 105) #[.pointer (some ⟨g, 0, none⟩)] #[], .func (Fn.func 106) #[.pointer (some ⟨g, 0, none⟩)] #[], .func (Fn.func 107) #[.pointer (some ⟨g, 0, none⟩)] #[], .func (Fn.func 108) #[.pointer (some ⟨g, 0, none⟩)] #[], .func (Fn.func 109) #[.pointer (some ⟨g, 0, none⟩)] #[]] 122 (w.heap.size + 2) (by simp))
  clear hl hn hM hm hk hk8
  have cM := blk_cell (M1.out.blk_at 2 rfl)
  have cB := blk_cell (M1.out.blk_at 1 rfl)
  have cF := blk_cell (M1.out.blk_at 0 rfl)
  have cG := blk_cell (M1.out.blk_at 3 rfl)
  unfold Wa.wc at cG
  go_enter_defers Tryz.func65, Tryz.ntmps65
  go_wp2_with fail
  go_upto_region 3 with (fail)
  clear cM cB cF cG
  obtain ⟨wc, hwc⟩ : ∃ wc : World, ((w.alloc (Obj.cells #[.int .i64 m.f0, .int .i64 m.f1, .int .i64 m.f2, .int .i64 m.f3, .int .i64 m.f4, .int .i64 m.f5, .int .i64 m.f6, .slice A m.f7.length c] 27)).alloc (Obj.cells #[.bool false] 4)).alloc (Obj.cells #[.nilFunc, .func (Fn.func 103) #[.pointer (some ⟨g, 0, none⟩)] #[], .func (Fn.func 104) #[.pointer (some ⟨g, 0, none⟩)] #[], .func (Fn.func 103) #[.pointer (some ⟨g, 0, none⟩)] #[], .func (Fn.func 105) #[.pointer (some ⟨g, 0, none⟩)] #[], .func (Fn.func 106) #[.pointer (some ⟨g, 0, none⟩)] #[], .func (Fn.func 107) #[.pointer (some ⟨g, 0, none⟩)] #[], .func (Fn.func 108) #[.pointer (some ⟨g, 0, none⟩)] #[], .func (Fn.func 109) #[.pointer (some ⟨g, 0, none⟩)] #[]] 122) = wc := ⟨_, rfl⟩
  rw [hwc] at M1 ⊢
  clear hwc
  have cM := blk_cell (M1.out.blk_at 2 rfl)
  have cG0 := blk_cell (M1.out.blk_at 3 rfl)
  have HG0 := Aside0.mk cG0
  have HM0 := Aside0.mk cM
  have cG := cG0
  unfold Wa.wc at cG
  clear cG0
  have M1D := Aside0.mk M1.out.drew
  have HS0 := Aside0.mk (show (∀ j : Nat, wc.drew.cell? ⟨w.heap.size, j, none⟩ = wc.cell? ⟨w.heap.size, j, none⟩) ∧ (∀ j : Nat, wc.drew.cell? ⟨g, j, none⟩ = wc.cell? ⟨g, j, none⟩) from ⟨fun _ => rfl, fun _ => rfl⟩)
  have H9 := HS0
  go_region_held3 (fun w' => (∀ j : Nat, w'.cell? ⟨w.heap.size, j, none⟩ = wc.cell? ⟨w.heap.size, j, none⟩) ∧ (∀ j : Nat, w'.cell? ⟨g, j, none⟩ = wc.cell? ⟨g, j, none⟩)) (first | with_reducible exact HS0.out | with_reducible exact H9.out | fail) ((go_at_call 110; refine (HMC.out _ (Kd.C_below HL.out M1D.out.below)).mono ?_; rintro e w1 ⟨rfl, hM⟩; have M2 := Aside0.mk (M1D.out.trans hM); clear hM; have H9 := Aside0.mk (show (∀ j : Nat, w1.cell? ⟨w.heap.size, j, none⟩ = wc.cell? ⟨w.heap.size, j, none⟩) ∧ (∀ j : Nat, w1.cell? ⟨g, j, none⟩ = wc.cell? ⟨g, j, none⟩) from ⟨fun j => (blk_cell (M2.out.blk_at 2 rfl) j).trans (HM0.out j).symm, fun j => (blk_cell (M2.out.blk_at 3 rfl) j).trans (HG0.out j).symm⟩)))
  clear H9 HS0 HM0 HG0 M1D cM cG M1
  have cB : w1.cell? ⟨w.heap.size + 1, 0, none⟩ = some (.bool false) := blk_cell (M2.out.blk_at 1 rfl) 0
  have fB : w1.frozen? ⟨w.heap.size + 1, 0, none⟩ = false := blk_frozen (M2.out.blk_at 1 rfl) 0
  go_wp2
  refine leaves_cons (f := 102) (args := #[.pointer (some ⟨w.heap.size + 1, 0, none⟩)]) (by simp) (by simp [go_sem]) ?_
  refine (catch_panicking ⟨w.heap.size + 1, 0, none⟩ [] _ false cB fB).mono ?_
  rintro e u' w4 ⟨rfl, rfl, w3, hM, rfl⟩
  have M4 := (M2.out.trans hM).set 1 rfl 0 (.bool false)
  have cE : (w3.setCell ⟨w.heap.size + 1, 0, none⟩ (.bool false)).cell? ⟨w.heap.size + 1, 0, none⟩ = some (.bool false) := blk_cell (M4.blk_at 1 rfl) 0
  clear hM
  simp [Leaves, settle, results, Tryz.results65, go_sem, cE]
  exact Mem.sel (ps := [_, _, _, _, _, _, _, _, _, _]) (F := F) [3, 4, 5, 6, 7, 8, 9] 10 M4 rfl rfl
end Go.Proofs.YtggbjokhniigkaaGreat.Tt
namespace Go.Proofs.YtggbjokhniigkaaGreat.Ua
open Go.Proofs.YtggbjokhniigkaaGreat.Ty Go.RowKit Go.Proofs.YtggbjokhniigkaaGreatW.PrintWords Go.Proofs.YtggbjokhniigkaaGreatW.PrintLast Go.Proofs.YtggbjokhniigkaaGreatW.PrintMore Go.Proofs.YtggbjokhniigkaaGreat.Mx Go.Proofs.YtggbjokhniigkaaGreat.Kx Go.Proofs.YtggbjokhniigkaaGreat.Wa Go.Proofs.YtggbjokhniigkaaGreat.Wb Go.Proofs.YtggbjokhniigkaaGreat.Wc Go.Proofs.YtggbjokhniigkaaGreat.Wd Go.Proofs.YtggbjokhniigkaaGreat.Vc Go.Proofs.YtggbjokhniigkaaGreat.Sa Go.Proofs.YtggbjokhniigkaaGreat.Wj Go.Proofs.YtggbjokhniigkaaGreat.Tk Go.Proofs.YtggbjokhniigkaaGreat.Tb Go.Proofs.YtggbjokhniigkaaGreat.Tn Go.Proofs.YtggbjokhniigkaaGreat.Tt Go.Proofs.YtggbjokhniigkaaGreat.Tx Go.Proofs.YtggbjokhniigkaaGreat.Tr Go.Proofs.YtggbjokhniigkaaGreat.Tz
set_option linter.unusedVariables false
def FewOf (s : Rep) (msgs : List Msg) : Prop := (s.f5.length ≤ 1000000 ∧ Small s) ∧ (msgs.length ≤ 1000000000 ∧ ∀ i, (rd_Msg msgs i).f7.length ≤ 1000000000)
theorem rd_f7 {l : List Msg} {n : Nat} (h : ∀ x ∈ l, x.f7.length ≤ n) (i : Int) : (rd_Msg l i).f7.length ≤ n := by
  unfold rd_Msg
  rcases Nat.lt_or_ge i.toNat l.length with g | g
  · rw [List.getD, List.getElem?_eq_getElem g]
    exact h _ (List.getElem_mem g)
  · rw [List.getD, List.getElem?_eq_none g]
    exact Nat.zero_le _
theorem few_same {r : Rep} (hs : r.f5.length ≤ 1200 ∧ r.f7.length ≤ 20 ∧ r.f8.length ≤ 20 ∧ r.f9.length ≤ 20 ∧ r.f10.length ≤ 1200) : FewOf r [] :=
  ⟨⟨Nat.le_trans hs.1 (by decide), ⟨Nat.le_trans hs.1 (by decide), Nat.le_trans hs.2.1 (by decide), Nat.le_trans hs.2.2.1 (by decide), Nat.le_trans hs.2.2.2.1 (by decide), Nat.le_trans hs.2.2.2.2 (by decide)⟩⟩, Nat.zero_le _, rd_f7 (by simp)⟩
theorem mayP_iff (r : Rep) (m : Msg) : mayMsgP r m ↔ mayMsg r m = true := by
  unfold mayMsgP mayMsg mayM
  simp only [Bool.and_eq_true, decide_eq_true_eq, Bool.or_eq_true, Bool.not_eq_true', beq_eq_false_iff_ne, beq_iff_eq, ne_eq]
  constructor
  · rintro ⟨a1, a2, a3, a4, a5, a6, a7, a8, a9, a10, a11, a12⟩
    refine ⟨a1, a2, a3, a4, a5, a6, a7, a8, a9, a10, a11, ?_⟩
    by_cases h : m.f0 = 1
    · exact .inr (by have := a12 h; omega)
    · exact .inl h
  · rintro ⟨a1, a2, a3, a4, a5, a6, a7, a8, a9, a10, a11, a12⟩
    exact ⟨a1, a2, a3, a4, a5, a6, a7, a8, a9, a10, a11, fun h => a12.elim (fun h' => absurd h h') (fun h' => by omega)⟩
theorem mayMsg_in (r : Rep) (m : Msg) (h1 : 1 ≤ m.f0) (h8 : m.f0 ≤ 8) : mayMsg r m = mayM r m := by simp [mayMsg, h1, h8]
theorem may_P {r : Rep} {m : Msg} (h1 : 1 ≤ m.f0) (h8 : m.f0 ≤ 8) (h : mayM r m = true) : mayMsgP r m := (mayP_iff r m).2 ((mayMsg_in r m h1 h8).trans h)
/-- Refused, or what both make of it. -/
theorem takesAs_of (r : Rep) (m : Msg) (A5 A7 A8 A9 A10 A : Option Addr) (c5 c7 c8 c9 c10 c : Nat) (k1 : 1 ≤ m.f0) (k8 : m.f0 ≤ 8) (hc : Fit r c5 c7 c8 c9 c10) (hs : r.f5.length ≤ 1200 ∧ r.f7.length ≤ 20 ∧ r.f8.length ≤ 20 ∧ r.f9.length ≤ 20 ∧ r.f10.length ≤ 1200) (hln : m.f7.length ≤ 1200) (hlc : m.f7.length ≤ c)
    (hgood : may r = true → mayM r m = true → ∃ (s : Rep) (msgs : List Msg), FewOf s msgs ∧ (∀ w, RdRep w r A5 A7 A8 A9 A10 → Kd.C kE w A m.f7.length m.f7 → Calls Tryz.prog 34 #[.agg (rc r (.slice A5 r.f5.length c5) (.slice A7 r.f7.length c7) (.slice A8 r.f8.length c8) (.slice A9 r.f9.length c9) (.slice A10 r.f10.length c10)), .agg #[.int .i64 m.f0, .int .i64 m.f1, .int .i64 m.f2, .int .i64 m.f3, .int .i64 m.f4, .int .i64 m.f5, .int .i64 m.f6, .slice A m.f7.length c]] w fun e w' => ∃ v5 v7 v8 v9 v10 vout : Value, e = .returned (.tuple #[.agg (rc s v5 v7 v8 v9 v10), vout, .int .i64 0]) ∧ Mem w w' (rows s v5 v7 v8 v9 v10 ++ [row kM 27 vout msgs])) ∧ (∀ w, RdRep w r A5 A7 A8 A9 A10 → Kd.C kE w A m.f7.length m.f7 → Calls Tryz.prog 35 #[.agg #[.int .i64 r.f0, .int .i64 r.f1, .int .i64 r.f2, .int .i64 r.f3, .int .i64 r.f4, .slice A5 r.f5.length c5, .int .i64 r.f6, .slice A7 r.f7.length c7, .slice A8 r.f8.length c8, .slice A9 r.f9.length c9, .slice A10 r.f10.length c10, .int .i64 r.f11, .int .i64 r.f12], .agg #[.int .i64 m.f0, .int .i64 m.f1, .int .i64 m.f2, .int .i64 m.f3, .int .i64 m.f4, .int .i64 m.f5, .int .i64 m.f6, .slice A m.f7.length c]] w fun e w' => OutS w w' e s msgs 0)) : TakesAs r m A5 A7 A8 A9 A10 A c5 c7 c8 c9 c10 c := by
  have hn : Small r := ⟨Nat.le_trans hs.1 (by decide), Nat.le_trans hs.2.1 (by decide), Nat.le_trans hs.2.2.1 (by decide), Nat.le_trans hs.2.2.2.1 (by decide), Nat.le_trans hs.2.2.2.2 (by decide)⟩
  have hin : mayMsg r m = mayM r m := mayMsg_in r m k1 k8
  cases h1 : may r with
  | false => exact ⟨r, [], 1, (few_same hs).1, (few_same hs).2, fun w h hl => Take_e1 r m A5 A7 A8 A9 A10 A c5 c7 c8 c9 c10 c w h hn hl h1, fun w h hl => Take11_e1 r m A5 A7 A8 A9 A10 A c5 c7 c8 c9 c10 c w h hc hs hl hlc (Nat.le_trans hln (by decide)) h1⟩
  | true =>
    cases h2 : mayM r m with
    | false => exact ⟨r, [], 1, (few_same hs).1, (few_same hs).2, fun w h hl => Take_e2 r m A5 A7 A8 A9 A10 A c5 c7 c8 c9 c10 c w h hn hl h1 (fun w0 w F g v5 v7 v8 v9 v10 hM hl => takes_no w0 w F g r m v5 v7 v8 v9 v10 (.slice none 0 0) A c k1 k8 h2 hM hl (Nat.le_trans hln (by decide))), fun w h hl => Take11_e2 r m A5 A7 A8 A9 A10 A c5 c7 c8 c9 c10 c w h hc hs hl hlc (Nat.le_trans hln (by decide)) h1 (hin.trans h2)⟩
    | true =>
      obtain ⟨s, msgs, hf, t1, t2⟩ := hgood h1 h2
      exact ⟨s, msgs, 0, hf.1, hf.2, t1, t2⟩
end Go.Proofs.YtggbjokhniigkaaGreat.Ua
