/- Texts laid together: To, Tr, Ms, Sm. No condition. -/
import Derived.Deep.RegionHeld3
import Derived.Deep.LoopGhost
import Derived.OrdersHeld
import Derived.Test.YtggbjokhniigkaaGreatY4z11
import Derived.Test.YtggbjokhniigkaaGreatY4z13
namespace Go.Proofs.YtggbjokhniigkaaGreat.To
open Go.Proofs.YtggbjokhniigkaaGreat.Ty Go.RowKit Go.Proofs.YtggbjokhniigkaaGreatW.PrintWords Go.Proofs.YtggbjokhniigkaaGreatW.PrintLast Go.Proofs.YtggbjokhniigkaaGreatW.PrintMore Go.Proofs.YtggbjokhniigkaaGreat.Mx Go.Proofs.YtggbjokhniigkaaGreat.Kx Go.Proofs.YtggbjokhniigkaaGreat.Wa
set_option linter.unusedVariables false
set_option linter.unusedSimpArgs false
/-- A block just laid out is a row of one element, whose own rows are told as a resource. -/
theorem lit1 {w0 w : World} {rs : List Res} {α : Type} (h : Mem w0 w rs) (i j : Nat) (hij : i ≠ j) (d : Kd α) {e : TypeId} {g : Nat} {cs : List Value} (p : α) (hi : rs[i]? = some (blk g e cs.toArray)) (hj : rs[j]? = some (el d p cs)) (hs : cs.length = d.sz) :
    Mem w0 w ((rs.set i (Mx.row d e (.slice (some ⟨g, 0, none⟩) 1 1) [p])).set j emp) := by
  obtain ⟨f, q, h1, h2, hf, hq, hd, h3⟩ := h.take2 hi hj hij
  refine h3 w _ rfl rfl rfl (Nat.le_refl _) (fun _ _ _ _ => rfl) ?_
  refine ⟨fun k hk => ?_, cs, ⟨by simpa using hs, .inr ⟨g, 1, cs.toArray, rfl, Nat.zero_le _, h1.1, Nat.le_refl _, by unfold maxLen; omega, by simpa using hs, ?_⟩⟩, ⟨by simpa using hs, fun j p' hj' => ?_⟩⟩
  · have : g = k := by simpa [Value.ownBlock] using hk
    subst this
    exact .inl h1.2
  · rw [List.take_of_length_le]
    simpa using Nat.le_of_eq hs
  · cases j with
    | zero =>
      obtain rfl : p = p' := by simpa using hj'
      have : (cs.drop (0 * d.sz)).take d.sz = cs := by
        rw [Nat.zero_mul, List.drop_zero, List.take_of_length_le (by omega)]
      rw [this]
      refine d.M_mono (fun k hk => ⟨.inr (.inl hk), fun he => ?_⟩) h2
      have : k = g := by simpa [Value.ownBlock] using he
      subst this
      exact hd k h1.2 hk
    | succ j => simp at hj'
set_option maxRecDepth 100000 in
set_option maxHeartbeats 4000000 in
theorem one11_calls (w0 w : World) (Rm : Res) (F : List Res) (g : Nat) (i n vw nr hw : Int) (vl : Value) (cm : Int) (va vv vo vb : Value) (bv bd : Int) (to_ m0 m1 m2 m3 m4 m5 m6 : Int) (A : Option Addr) (c : Nat) (l : List Entry)
    (hM : Mem w0 w (Rm :: blk g 25 #[.int .i64 i, .int .i64 n, .int .i64 vw, .int .i64 nr, .int .i64 hw, vl, .int .i64 cm, va, vv, vo, vb, .int .i64 bv, .int .i64 bd] :: F)) (hl : Rd w0 Rm kE A l) (hn : l.length ≤ 1000000000) (hc : l.length ≤ c) :
    Calls Tryz.prog 72 #[.pointer (some ⟨g, 0, none⟩), .int .i64 to_, .agg #[.int .i64 m0, .int .i64 m1, .int .i64 m2, .int .i64 m3, .int .i64 m4, .int .i64 m5, .int .i64 m6, .slice A l.length c]] w fun e w' =>
      ∃ vout : Value, e = .returned vout ∧ Mem w0 w' (row kM 27 vout [⟨m0, i, to_, vw, m4, m5, m6, l⟩] :: Rm :: blk g 25 #[.int .i64 i, .int .i64 n, .int .i64 vw, .int .i64 nr, .int .i64 hw, vl, .int .i64 cm, va, vv, vo, vb, .int .i64 bv, .int .i64 bd] :: F) := by
  have HN := Aside0.mk hn
  have hg : g < w.heap.size := blk_lt (hM.blk_at 1 rfl)
  have M3 := Aside0.mk (hM.allocAt #[.int .i64 m0, .int .i64 i, .int .i64 to_, .int .i64 vw, .int .i64 m4, .int .i64 m5, .int .i64 m6, .slice A l.length c] 27 _ rfl)
  have HCC := Aside0.mk (hl _ _ 1 M3.out rfl)
  have cG := blk_cell (hM.blk_at 1 rfl)
  have ngb : ¬ g = w.heap.size := by omega
  have nbg : ¬ w.heap.size = g := by omega
  clear hM hl hn hc
  go_enter Tryz.func72, Tryz.ntmps72
  go_wp2_with (((with_reducible refine gate_builtin (b := .append) (xs := #[.tmp 19, .tmp 21]) rfl ?_); at_builtin; refine Mem.app kE ((M3.out.allocAt #[] 68 (w.heap.size + 1) (by simp)).lit 0 kE [] rfl (Reps.none _ _) (by decide)) 0 _ [] l rfl (.tmp 19) (.tmp 21) 22 68 _ _ rfl Tryz.underlying22 infoEntry rfl (by decide) (by omega) A _ c rfl rfl rfl (Kd.C_alloc HCC.out _) (fun x cs h => h) (by have := HN.out; simp; omega) ?_; intro v1 w1 hM1; have M4 := Aside0.mk (show Mem _ _ (row kE _ v1 l :: _) from hM1); clear hM1; obtain ⟨A2, c2, he, hc2, _⟩ := M4.out.row_at 0 rfl; subst he; have cB4 := blk_cell (M4.out.blk_at 1 rfl); have fB4 := blk_frozen (M4.out.blk_at 1 rfl)))
  go_ret
  have M5 := M4.out.set 1 rfl 7 (.slice A2 l.length c2)
  have M6 := (M5.imp (i := 0) rfl (el kM ⟨m0, i, to_, vw, m4, m5, m6, l⟩ [.int .i64 m0, .int .i64 i, .int .i64 to_, .int .i64 vw, .int .i64 m4, .int .i64 m5, .int .i64 m6, .slice A2 l.length c2]) (fun f hf => kM_mkM _ _ _ ⟨m0, i, to_, vw, m4, m5, m6, l⟩ hf)).allocAt #[.int .i64 m0, .int .i64 i, .int .i64 to_, .int .i64 vw, .int .i64 m4, .int .i64 m5, .int .i64 m6, .slice A2 l.length c2] 27 w1.heap.size (by simp)
  exact ⟨_, rfl, Mem.sel (ps := [_, _, _, _, _]) (F := F) [0, 3, 4] 5 (lit1 M6 0 1 (by decide) kM (cs := [.int .i64 m0, .int .i64 i, .int .i64 to_, .int .i64 vw, .int .i64 m4, .int .i64 m5, .int .i64 m6, .slice A2 l.length c2]) ⟨m0, i, to_, vw, m4, m5, m6, l⟩ rfl rfl rfl) rfl rfl⟩
end Go.Proofs.YtggbjokhniigkaaGreat.To
namespace Go.Proofs.YtggbjokhniigkaaGreat.Tr
open Go.Proofs.YtggbjokhniigkaaGreat.Ve Go.Proofs.YtggbjokhniigkaaGreat.Ty Go.RowKit Go.Proofs.YtggbjokhniigkaaGreatW.PrintWords Go.Proofs.YtggbjokhniigkaaGreatW.PrintLast Go.Proofs.YtggbjokhniigkaaGreatW.PrintMore Go.Proofs.YtggbjokhniigkaaGreat.Mx Go.Proofs.YtggbjokhniigkaaGreat.Kx Go.Proofs.YtggbjokhniigkaaGreat.Wa Go.Proofs.YtggbjokhniigkaaGreat.Wb Go.Proofs.YtggbjokhniigkaaGreat.Wc Go.Proofs.YtggbjokhniigkaaGreat.Wd Go.Proofs.YtggbjokhniigkaaGreat.Vc Go.Proofs.YtggbjokhniigkaaGreat.Rd Go.Proofs.YtggbjokhniigkaaGreat.Wj Go.Proofs.YtggbjokhniigkaaGreat.Tk Go.Proofs.YtggbjokhniigkaaGreat.Tn Go.Proofs.YtggbjokhniigkaaGreat.To
set_option linter.unusedVariables false
set_option linter.unusedSimpArgs false
/-- What is handed back: it reads as s, and what was there stays. -/
def OutS (w w' : World) (e : Ending) (s : Rep) (msgs : List Msg) (code : Int) : Prop :=
  ∃ (B5 B7 B8 B9 B10 Bo : Option Addr) (d5 d7 d8 d9 d10 co : Nat), e = .returned (.tuple #[.agg #[.int .i64 s.f0, .int .i64 s.f1, .int .i64 s.f2, .int .i64 s.f3, .int .i64 s.f4, .slice B5 s.f5.length d5, .int .i64 s.f6, .slice B7 s.f7.length d7, .slice B8 s.f8.length d8, .slice B9 s.f9.length d9, .slice B10 s.f10.length d10, .int .i64 s.f11, .int .i64 s.f12], .slice Bo msgs.length co, .int .i64 code]) ∧ RdRep w' s B5 B7 B8 B9 B10 ∧ Fit s d5 d7 d8 d9 d10 ∧ Kd.C kM w' Bo msgs.length msgs ∧ msgs.length ≤ co ∧ Below w.heap.size w w'
theorem OutS_of {w w' : World} {s : Rep} {msgs : List Msg} {code : Int} {v5 v7 v8 v9 v10 vo : Value} {F : List Res} (hM : Mem w w' (row kE 68 v5 s.f5 :: row (Kd.int .i64) 3 v7 s.f7 :: row (Kd.int .i64) 3 v8 s.f8 :: row (Kd.int .i64) 3 v9 s.f9 :: row kE 68 v10 s.f10 :: row kM 27 vo msgs :: F)) :
    OutS w w' (.returned (.tuple #[.agg #[.int .i64 s.f0, .int .i64 s.f1, .int .i64 s.f2, .int .i64 s.f3, .int .i64 s.f4, v5, .int .i64 s.f6, v7, v8, v9, v10, .int .i64 s.f11, .int .i64 s.f12], vo, .int .i64 code])) s msgs code := by
  obtain ⟨B5, d5, rfl, h5, g5⟩ := hM.row_at 0 rfl
  obtain ⟨B7, d7, rfl, h7, g7⟩ := hM.row_at 1 rfl
  obtain ⟨B8, d8, rfl, h8, g8⟩ := hM.row_at 2 rfl
  obtain ⟨B9, d9, rfl, h9, g9⟩ := hM.row_at 3 rfl
  obtain ⟨B10, d10, rfl, h10, g10⟩ := hM.row_at 4 rfl
  obtain ⟨Bo, co, rfl, ho, go⟩ := hM.row_at 5 rfl
  exact ⟨B5, B7, B8, B9, B10, Bo, d5, d7, d8, d9, d10, co, rfl, ⟨g5, g7, g8, g9, g10⟩, ⟨h5, h7, h8, h9, h10⟩, go, ho, hM.below⟩
set_option maxRecDepth 100000 in
set_option maxHeartbeats 8000000 in
theorem Take11_e1 (r : Rep) (m : Msg) (A5 A7 A8 A9 A10 A : Option Addr) (c5 c7 c8 c9 c10 c : Nat) (w : World) (h : RdRep w r A5 A7 A8 A9 A10) (hc : Fit r c5 c7 c8 c9 c10) (hs : r.f5.length ≤ 1200 ∧ r.f7.length ≤ 20 ∧ r.f8.length ≤ 20 ∧ r.f9.length ≤ 20 ∧ r.f10.length ≤ 1200) (hl : Kd.C kE w A m.f7.length m.f7) (hlc : m.f7.length ≤ c) (hln : m.f7.length ≤ 1000000) (h1 : may r = false) :
    Calls Tryz.prog 35 #[.agg #[.int .i64 r.f0, .int .i64 r.f1, .int .i64 r.f2, .int .i64 r.f3, .int .i64 r.f4, .slice A5 r.f5.length c5, .int .i64 r.f6, .slice A7 r.f7.length c7, .slice A8 r.f8.length c8, .slice A9 r.f9.length c9, .slice A10 r.f10.length c10, .int .i64 r.f11, .int .i64 r.f12], .agg #[.int .i64 m.f0, .int .i64 m.f1, .int .i64 m.f2, .int .i64 m.f3, .int .i64 m.f4, .int .i64 m.f5, .int .i64 m.f6, .slice A m.f7.length c]] w fun e w' => OutS w w' e r [] 1 := by
  have E1 := Aside0.mk h1
  clear h1
  have H := Aside0.mk h
  have HC := Aside0.mk hc
  have HS := Aside0.mk hs
  have HL := Aside0.mk hl
  have HLC := Aside0.mk hlc
  have HLN := Aside0.mk hln
  have M1 := Aside0.mk ((((Mem.nil w).alloc #[.int .i64 r.f0, .int .i64 r.f1, .int .i64 r.f2, .int .i64 r.f3, .int .i64 r.f4, .slice A5 r.f5.length c5, .int .i64 r.f6, .slice A7 r.f7.length c7, .slice A8 r.f8.length c8, .slice A9 r.f9.length c9, .slice A10 r.f10.length c10, .int .i64 r.f11, .int .i64 r.f12] 25).allocAt #[.int .i64 m.f0, .int .i64 m.f1, .int .i64 m.f2, .int .i64 m.f3, .int .i64 m.f4, .int .i64 m.f5, .int .i64 m.f6, .slice A m.f7.length c] 27 (w.heap.size + 1) (by simp)).allocAt #[.int .i64 0, .int .i64 0, .int .i64 0, .int .i64 0, .int .i64 0, .slice none 0 0, .int .i64 0, .slice none 0 0, .slice none 0 0, .slice none 0 0, .slice none 0 0, .int .i64 0, .int .i64 0] 25 (w.heap.size + 2) (by simp))
  clear h hc hs hl hlc hln
  go_enter Tryz.func35, Tryz.ntmps35
  go_wp2_with fail
  refine (May11_calls r A5 A7 A8 A9 A10 c5 c7 c8 c9 c10 _ (H.out.below M1.out.below) HC.out HS.out).mono ?_
  rintro e w1 ⟨he, hb⟩
  rw [E1.out] at he
  subst he
  have M2 := Aside0.mk (M1.out.grow hb)
  clear hb M1
  have cR := blk_cell (M2.out.blk_at 2 rfl)
  have cM := blk_cell (M2.out.blk_at 1 rfl)
  have cZ := blk_cell (M2.out.blk_at 0 rfl)
  have fZ := blk_frozen (M2.out.blk_at 0 rfl)
  go_wp2_with fail
  all_goals
    have MF := (M2.out.setRow 0 rfl [.int .i64 r.f0, .int .i64 r.f1, .int .i64 r.f2, .int .i64 r.f3, .int .i64 r.f4, .slice A5 r.f5.length c5, .int .i64 r.f6, .slice A7 r.f7.length c7, .slice A8 r.f8.length c8, .slice A9 r.f9.length c9, .slice A10 r.f10.length c10, .int .i64 r.f11, .int .i64 r.f12] rfl)
    have hgF := MF.blk_at 0 rfl
    refine bodyPost_ret (results_list (rs := [.cell 4 25, .tmp 5, .tmp 6]) rfl (by simp) (.cell (w.heap.size + 2) 25 #[.int .i64 r.f0, .int .i64 r.f1, .int .i64 r.f2, .int .i64 r.f3, .int .i64 r.f4, .slice A5 r.f5.length c5, .int .i64 r.f6, .slice A7 r.f7.length c7, .slice A8 r.f8.length c8, .slice A9 r.f9.length c9, .slice A10 r.f10.length c10, .int .i64 r.f11, .int .i64 r.f12] (0, 0) _ rfl hgF Tryz.underlying25 rfl (by kernel_rfl) (.tmp (.tmp .nil)))) rfl ?_
    exact ⟨A5, A7, A8, A9, A10, none, c5, c7, c8, c9, c10, 0, rfl, H.out.below MF.below, HC.out, C_zero _, Nat.le_refl _, MF.below⟩
set_option maxRecDepth 100000 in
set_option maxHeartbeats 8000000 in
theorem Take11_e2 (r : Rep) (m : Msg) (A5 A7 A8 A9 A10 A : Option Addr) (c5 c7 c8 c9 c10 c : Nat) (w : World) (h : RdRep w r A5 A7 A8 A9 A10) (hc : Fit r c5 c7 c8 c9 c10) (hs : r.f5.length ≤ 1200 ∧ r.f7.length ≤ 20 ∧ r.f8.length ≤ 20 ∧ r.f9.length ≤ 20 ∧ r.f10.length ≤ 1200) (hl : Kd.C kE w A m.f7.length m.f7) (hlc : m.f7.length ≤ c) (hln : m.f7.length ≤ 1000000) (h1 : may r = true) (h2 : mayMsg r m = false) :
    Calls Tryz.prog 35 #[.agg #[.int .i64 r.f0, .int .i64 r.f1, .int .i64 r.f2, .int .i64 r.f3, .int .i64 r.f4, .slice A5 r.f5.length c5, .int .i64 r.f6, .slice A7 r.f7.length c7, .slice A8 r.f8.length c8, .slice A9 r.f9.length c9, .slice A10 r.f10.length c10, .int .i64 r.f11, .int .i64 r.f12], .agg #[.int .i64 m.f0, .int .i64 m.f1, .int .i64 m.f2, .int .i64 m.f3, .int .i64 m.f4, .int .i64 m.f5, .int .i64 m.f6, .slice A m.f7.length c]] w fun e w' => OutS w w' e r [] 1 := by
  have E1 := Aside0.mk h1
  have MSG : Aside0 (∀ w', Kd.C kE w' A m.f7.length m.f7 → Calls Tryz.prog 66 #[.agg #[.int .i64 r.f0, .int .i64 r.f1, .int .i64 r.f2, .int .i64 r.f3, .int .i64 r.f4, .slice A5 r.f5.length c5, .int .i64 r.f6, .slice A7 r.f7.length c7, .slice A8 r.f8.length c8, .slice A9 r.f9.length c9, .slice A10 r.f10.length c10, .int .i64 r.f11, .int .i64 r.f12], .agg #[.int .i64 m.f0, .int .i64 m.f1, .int .i64 m.f2, .int .i64 m.f3, .int .i64 m.f4, .int .i64 m.f5, .int .i64 m.f6, .slice A m.f7.length c]] w' fun e w'' => e = .returned (.bool false) ∧ Mem w' w'' []) :=
    ⟨fun w' h => by have := message11_calls r m A5 A7 A8 A9 A10 A c5 c7 c8 c9 c10 c w' h hlc hln; rw [h2] at this; exact this⟩
  clear h1 h2
  have H := Aside0.mk h
  have HC := Aside0.mk hc
  have HS := Aside0.mk hs
  have HL := Aside0.mk hl
  have HLC := Aside0.mk hlc
  have HLN := Aside0.mk hln
  have M1 := Aside0.mk ((((Mem.nil w).alloc #[.int .i64 r.f0, .int .i64 r.f1, .int .i64 r.f2, .int .i64 r.f3, .int .i64 r.f4, .slice A5 r.f5.length c5, .int .i64 r.f6, .slice A7 r.f7.length c7, .slice A8 r.f8.length c8, .slice A9 r.f9.length c9, .slice A10 r.f10.length c10, .int .i64 r.f11, .int .i64 r.f12] 25).allocAt #[.int .i64 m.f0, .int .i64 m.f1, .int .i64 m.f2, .int .i64 m.f3, .int .i64 m.f4, .int .i64 m.f5, .int .i64 m.f6, .slice A m.f7.length c] 27 (w.heap.size + 1) (by simp)).allocAt #[.int .i64 0, .int .i64 0, .int .i64 0, .int .i64 0, .int .i64 0, .slice none 0 0, .int .i64 0, .slice none 0 0, .slice none 0 0, .slice none 0 0, .slice none 0 0, .int .i64 0, .int .i64 0] 25 (w.heap.size + 2) (by simp))
  clear h hc hs hl hlc hln
  go_enter Tryz.func35, Tryz.ntmps35
  go_wp2_with fail
  refine (May11_calls r A5 A7 A8 A9 A10 c5 c7 c8 c9 c10 _ (H.out.below M1.out.below) HC.out HS.out).mono ?_
  rintro e w1 ⟨he, hb⟩
  rw [E1.out] at he
  subst he
  have M2 := Aside0.mk (M1.out.grow hb)
  clear hb M1
  have cR := blk_cell (M2.out.blk_at 2 rfl)
  have cM := blk_cell (M2.out.blk_at 1 rfl)
  have cZ := blk_cell (M2.out.blk_at 0 rfl)
  have fZ := blk_frozen (M2.out.blk_at 0 rfl)
  go_wp2_with fail
  refine (MSG.out _ (Kd.C_below HL.out M2.out.below)).mono ?_
  rintro e w2 ⟨rfl, hM⟩
  have M3 := Aside0.mk (Mem.sel (ps := [_, _, _]) (F := []) [0, 1, 2] 3 (M2.out.trans hM) rfl rfl)
  clear hM M2 cR cM cZ fZ
  have cR := blk_cell (M3.out.blk_at 2 rfl)
  have cM := blk_cell (M3.out.blk_at 1 rfl)
  have cZ := blk_cell (M3.out.blk_at 0 rfl)
  have fZ := blk_frozen (M3.out.blk_at 0 rfl)
  go_wp2_with fail
  all_goals
    have MF := (M3.out.setRow 0 rfl [.int .i64 r.f0, .int .i64 r.f1, .int .i64 r.f2, .int .i64 r.f3, .int .i64 r.f4, .slice A5 r.f5.length c5, .int .i64 r.f6, .slice A7 r.f7.length c7, .slice A8 r.f8.length c8, .slice A9 r.f9.length c9, .slice A10 r.f10.length c10, .int .i64 r.f11, .int .i64 r.f12] rfl)
    have hgF := MF.blk_at 0 rfl
    refine bodyPost_ret (results_list (rs := [.cell 4 25, .tmp 5, .tmp 6]) rfl (by simp) (.cell (w.heap.size + 2) 25 #[.int .i64 r.f0, .int .i64 r.f1, .int .i64 r.f2, .int .i64 r.f3, .int .i64 r.f4, .slice A5 r.f5.length c5, .int .i64 r.f6, .slice A7 r.f7.length c7, .slice A8 r.f8.length c8, .slice A9 r.f9.length c9, .slice A10 r.f10.length c10, .int .i64 r.f11, .int .i64 r.f12] (0, 0) _ rfl hgF Tryz.underlying25 rfl (by kernel_rfl) (.tmp (.tmp .nil)))) rfl ?_
    exact ⟨A5, A7, A8, A9, A10, none, c5, c7, c8, c9, c10, 0, rfl, H.out.below MF.below, HC.out, C_zero _, Nat.le_refl _, MF.below⟩
end Go.Proofs.YtggbjokhniigkaaGreat.Tr
namespace Go.Proofs.YtggbjokhniigkaaGreat.Ms
open Go.Proofs.YtggbjokhniigkaaGreat.Ty Go.RowKit Go.Proofs.YtggbjokhniigkaaGreatW.PrintWords Go.Proofs.YtggbjokhniigkaaGreatW.PrintLast Go.Proofs.YtggbjokhniigkaaGreatW.PrintMore Go.Proofs.YtggbjokhniigkaaGreat.Mx Go.Proofs.YtggbjokhniigkaaGreat.Kx
set_option linter.unusedVariables false
set_option linter.unusedSimpArgs false

theorem eqEntry (d : Nat) (w : World) (x0 y0 : Int) (x1 y1 : ByteArray) :
    (Op.equalIn (d + 2) 68 (.agg #[.int .i64 x0, .string x1]) (.agg #[.int .i64 y0, .string y1])).run Tryz.prog w = .ok (x0 == y0 && (x1.toList == y1.toList)) w := by
  refine eqA_of Tryz.underlying68 (by kernel_rfl) ?_
  refine eqf_cons (by rfl) (by go_simp; rfl) (by go_simp; rfl) (by go_simp) ?_
  exact eqf_last (by rfl) (by go_simp; rfl) (by go_simp; rfl) (by go_simp)
attribute [local go_sem high] eqEntry
set_option maxRecDepth 100000 in
set_option maxHeartbeats 4000000 in
theorem logs_calls (A B : Option Addr) (c d : Nat) (l : List Entry) (w : World) (hl : Kd.C kE w A l.length l) (hm : Kd.C kE w B l.length l) (hn : l.length ≤ 1000000000) :
    Calls Tryz.prog 28 #[.slice A l.length c, .slice B l.length d] w fun e w' => e = .returned (.bool true) ∧ Drawn0 w w' := by
  have hu := Tryz.underlying68
  have HL := Aside0.mk hl
  have HM := Aside0.mk hm
  clear hl hm
  have c3b0 : ((l.length : Int) == (l.length : Int)) = true := by simp
  have c3b1 : ((l.length : Int) != (l.length : Int)) = false := by simp
  go_enter Tryz.func28, Tryz.ntmps28
  go_wp2
  repeat (go_quiet (fail); try go_wp2)
  go_loopg [5] (l.length + 1) (fun kq v5 w' => ∃ (k : Nat), v5 = .int .i64 k ∧ Aside0 (k ≤ l.length ∧ kq = l.length + 1 - k) ∧ Drawn0 w w')
  case atStart => exact ⟨0, rfl, ⟨Nat.zero_le _, rfl⟩, by repeat (first | exact Drawn0.refl _ | apply Drawn0.step)⟩
  case round =>
    obtain ⟨k, rfl, HK, ⟨m1, rfl⟩⟩ := hrel
    by_cases hlt : k < l.length
    · obtain ⟨ad, e, hx0, hx1⟩ := at_Entry HL.out (k : Int) (by omega) (by omega)
      cases e
      obtain ⟨ae, e, hy0, hy1⟩ := at_Entry HM.out (k : Int) (by omega) (by omega)
      cases e
      simp only [Int.toNat_natCast] at hx0 hx1 hy0 hy1
      have p1 : (0 ≤ (k : Int)) = True := eq_true (by omega)
      have q1 : ((k : Int) < (l.length : Int)) = True := eq_true (by omega)
      have q2 : decide ((k : Int) < (l.length : Int)) = true := decide_eq_true (by omega)
      go_wp2
      go_quiet (fail)
      try go_wp2
      go_roundg (l.length - k)
      case measure => have := HK.out; omega
      case rel => exact ⟨k + 1, by go_num, ⟨by omega, by have := HK.out; omega⟩, by repeat (first | exact Drawn0.refl _ | apply Drawn0.step)⟩
    · have hk : k = l.length := by have := HK.out.1; omega
      subst hk
      go_wp2
      go_ret
      exact ⟨rfl, by repeat (first | exact Drawn0.refl _ | apply Drawn0.step)⟩
set_option maxRecDepth 100000 in
set_option maxHeartbeats 4000000 in
theorem messages_calls (A B : Option Addr) (c d : Nat) (l : List Msg) (w : World) (hl : Kd.C kM w A l.length l) (hm : Kd.C kM w B l.length l) (hn : l.length ≤ 1000000000) (hs : ∀ i, (rd_Msg l i).f7.length ≤ 1000000000) :
    Calls Tryz.prog 37 #[.slice A l.length c, .slice B l.length d] w fun e w' => e = .returned (.bool true) ∧ Mem w w' [] := by
  have hu := Tryz.underlying27
  have HL := Aside0.mk hl
  have HM := Aside0.mk hm
  have HS := Aside0.mk hs
  have M0 := Aside0.mk (Mem.nil w)
  clear hl hm hs
  have c3b0 : ((l.length : Int) == (l.length : Int)) = true := by simp
  have c3b1 : ((l.length : Int) != (l.length : Int)) = false := by simp
  go_enter Tryz.func37, Tryz.ntmps37
  go_wp2
  go_loopg [5] (l.length + 1) (fun kq v5 w' => ∃ (k : Nat), v5 = .int .i64 k ∧ Aside0 (k ≤ l.length ∧ kq = l.length + 1 - k) ∧ Aside0 (Mem w w' []))
  case atStart => exact ⟨0, rfl, ⟨Nat.zero_le _, rfl⟩, M0⟩
  case round =>
    obtain ⟨k, rfl, HK, M1⟩ := hrel
    rename_i _ w1
    by_cases hlt : k < l.length
    · obtain ⟨ad, A7, c7, e, hx0, hx1, hx2, hx3, hx4, hx5, hx6, hx7, lx7, ix7⟩ := at_Msg HL.out (k : Int) (by omega) (by omega)
      cases e
      obtain ⟨ae, B7, d7, e, hy0, hy1, hy2, hy3, hy4, hy5, hy6, hy7, ly7, iy7⟩ := at_Msg HM.out (k : Int) (by omega) (by omega)
      cases e
      have hs1 := HS.out (k : Int)
      simp only [Int.toNat_natCast] at hx0 hx1 hx2 hx3 hx4 hx5 hx6 hx7 hy0 hy1 hy2 hy3 hy4 hy5 hy6 hy7
      replace hx0 := (M1.out.below.cell (World.block_lt_of_cell? w _ hx0)).trans hx0
      replace hx1 := (M1.out.below.cell (World.block_lt_of_cell? w _ hx1)).trans hx1
      replace hx2 := (M1.out.below.cell (World.block_lt_of_cell? w _ hx2)).trans hx2
      replace hx3 := (M1.out.below.cell (World.block_lt_of_cell? w _ hx3)).trans hx3
      replace hx4 := (M1.out.below.cell (World.block_lt_of_cell? w _ hx4)).trans hx4
      replace hx5 := (M1.out.below.cell (World.block_lt_of_cell? w _ hx5)).trans hx5
      replace hx6 := (M1.out.below.cell (World.block_lt_of_cell? w _ hx6)).trans hx6
      replace hx7 := (M1.out.below.cell (World.block_lt_of_cell? w _ hx7)).trans hx7
      replace hy0 := (M1.out.below.cell (World.block_lt_of_cell? w _ hy0)).trans hy0
      replace hy1 := (M1.out.below.cell (World.block_lt_of_cell? w _ hy1)).trans hy1
      replace hy2 := (M1.out.below.cell (World.block_lt_of_cell? w _ hy2)).trans hy2
      replace hy3 := (M1.out.below.cell (World.block_lt_of_cell? w _ hy3)).trans hy3
      replace hy4 := (M1.out.below.cell (World.block_lt_of_cell? w _ hy4)).trans hy4
      replace hy5 := (M1.out.below.cell (World.block_lt_of_cell? w _ hy5)).trans hy5
      replace hy6 := (M1.out.below.cell (World.block_lt_of_cell? w _ hy6)).trans hy6
      replace hy7 := (M1.out.below.cell (World.block_lt_of_cell? w _ hy7)).trans hy7
      have bA : (ad.add (k * 8)).block < wr.heap.size := World.block_lt_of_cell? wr _ hx0
      have bB : (ae.add (k * 8)).block < wr.heap.size := World.block_lt_of_cell? wr _ hy0
      have nA3 : ¬ (ad.add (k * 8)).block = wr.heap.size := by omega
      have nB3 : ¬ (ae.add (k * 8)).block = wr.heap.size := by omega
      have nA4 : ¬ (ad.add (k * 8)).block = wr.heap.size + 1 := by omega
      have nB4 : ¬ (ae.add (k * 8)).block = wr.heap.size + 1 := by omega
      have IX := Aside0.mk ix7
      have IY := Aside0.mk iy7
      have LX := Aside0.mk lx7
      have LY := Aside0.mk ly7
      clear ix7 iy7 lx7 ly7
      generalize rd_Msg l (k : Int) = m at *
      have q2 : decide ((k : Int) < (l.length : Int)) = true := decide_eq_true (by omega)
      have q1 : ((k : Int) < (l.length : Int)) = True := eq_true (by omega)
      go_wp2_with fail
      go_region
      · have M2 := Aside0.mk (((M1.out.allocAt #[.int .i64 m.f0, .int .i64 m.f1, .int .i64 m.f2, .int .i64 m.f3, .int .i64 m.f4, .int .i64 m.f5, .int .i64 m.f6, .slice A7 m.f7.length c7] 27 _ rfl).allocAt #[.int .i64 m.f0, .int .i64 m.f1, .int .i64 m.f2, .int .i64 m.f3, .int .i64 m.f4, .int .i64 m.f5, .int .i64 m.f6, .slice B7 m.f7.length d7] 27 (wr.heap.size + 1) (by simp)).drew)
        go_wp2_with fail
        refine (logs_calls _ _ _ _ m.f7 _ (Kd.C_below IX.out M2.out.below) (Kd.C_below IY.out M2.out.below) hs1).mono ?_
        rintro e w2 ⟨rfl, hD⟩
        have M3 := Aside0.mk (M2.out.drawn hD)
        clear hD M2
        go_wp2
        go_roundg (l.length - k)
        case measure => have := HK.out; omega
        case rel => exact ⟨k + 1, by go_num, ⟨by omega, by have := HK.out; omega⟩, ⟨Mem.sel (ps := [_, _]) (F := []) [] 2 M3.out rfl rfl⟩⟩
      · have M2 := Aside0.mk (((M1.out.allocAt #[.int .i64 m.f0, .int .i64 m.f1, .int .i64 m.f2, .int .i64 m.f3, .int .i64 m.f4, .int .i64 m.f5, .int .i64 m.f6, .slice B7 m.f7.length d7] 27 _ rfl).allocAt #[.int .i64 m.f0, .int .i64 m.f1, .int .i64 m.f2, .int .i64 m.f3, .int .i64 m.f4, .int .i64 m.f5, .int .i64 m.f6, .slice A7 m.f7.length c7] 27 (wr.heap.size + 1) (by simp)).drew)
        go_wp2_with fail
        refine (logs_calls _ _ _ _ m.f7 _ (Kd.C_below IX.out M2.out.below) (Kd.C_below IY.out M2.out.below) hs1).mono ?_
        rintro e w2 ⟨rfl, hD⟩
        have M3 := Aside0.mk (M2.out.drawn hD)
        clear hD M2
        go_wp2
        go_roundg (l.length - k)
        case measure => have := HK.out; omega
        case rel => exact ⟨k + 1, by go_num, ⟨by omega, by have := HK.out; omega⟩, ⟨Mem.sel (ps := [_, _]) (F := []) [] 2 M3.out rfl rfl⟩⟩
    · have hk : k = l.length := by have := HK.out.1; omega
      subst hk
      go_wp2
      go_ret
      exact ⟨rfl, M1.out⟩
end Go.Proofs.YtggbjokhniigkaaGreat.Ms
namespace Go.Proofs.YtggbjokhniigkaaGreat.Sm
open Go.Proofs.YtggbjokhniigkaaGreat.Ty Go.RowKit Go.Proofs.YtggbjokhniigkaaGreatW.PrintWords Go.Proofs.YtggbjokhniigkaaGreatW.PrintLast Go.Proofs.YtggbjokhniigkaaGreatW.PrintMore Go.Proofs.YtggbjokhniigkaaGreat.Mx Go.Proofs.YtggbjokhniigkaaGreat.Kx Go.Proofs.YtggbjokhniigkaaGreat.Wd
set_option linter.unusedVariables false
set_option linter.unusedSimpArgs false
theorem at_IntC {w : World} {A : Option Addr} {n : Nat} {xs : List Int} (h : Kd.C (Kd.int .i64) w A n xs) (i : Int) (h0 : 0 ≤ i) (h1 : i < n) : ∃ ad, A = some ad ∧ w.cell? (ad.add i.toNat) = some (.int .i64 (rd xs i)) := by
  obtain ⟨ad, c, e, _, hK, hc0⟩ := Kd.C_get h 0 i h0 h1
  subst e
  exact ⟨ad, rfl, Kd.foot_int h i h0 h1⟩
set_option maxRecDepth 100000 in
set_option maxHeartbeats 4000000 in
theorem ints_calls (A B : Option Addr) (c d : Nat) (l : List Int) (w : World) (hl : Kd.C (Kd.int .i64) w A l.length l) (hm : Kd.C (Kd.int .i64) w B l.length l) (hn : l.length ≤ 1000000000) :
    Calls Tryz.prog 74 #[.slice A l.length c, .slice B l.length d] w fun e w' => e = .returned (.bool true) ∧ Drawn0 w w' := by
  have HL := Aside0.mk hl
  have HM := Aside0.mk hm
  clear hl hm
  have c3b0 : ((l.length : Int) == (l.length : Int)) = true := by simp
  have c3b1 : ((l.length : Int) != (l.length : Int)) = false := by simp
  go_enter Tryz.func74, Tryz.ntmps74
  go_wp2
  repeat (go_quiet (fail); try go_wp2)
  go_loopg [5] (l.length + 1) (fun kq v5 w' => ∃ (k : Nat), v5 = .int .i64 k ∧ Aside0 (k ≤ l.length ∧ kq = l.length + 1 - k) ∧ Drawn0 w w')
  case atStart => exact ⟨0, rfl, ⟨Nat.zero_le _, rfl⟩, by repeat (first | exact Drawn0.refl _ | apply Drawn0.step)⟩
  case round =>
    obtain ⟨k, rfl, HK, ⟨m1, rfl⟩⟩ := hrel
    by_cases hlt : k < l.length
    · obtain ⟨ad, e, hx0⟩ := at_IntC HL.out (k : Int) (by omega) (by omega)
      cases e
      obtain ⟨ae, e, hy0⟩ := at_IntC HM.out (k : Int) (by omega) (by omega)
      cases e
      simp only [Int.toNat_natCast] at hx0 hy0
      have p1 : (0 ≤ (k : Int)) = True := eq_true (by omega)
      have q1 : ((k : Int) < (l.length : Int)) = True := eq_true (by omega)
      have q2 : decide ((k : Int) < (l.length : Int)) = true := decide_eq_true (by omega)
      go_wp2
      go_quiet (fail)
      try go_wp2
      go_roundg (l.length - k)
      case measure => have := HK.out; omega
      case rel => exact ⟨k + 1, by go_num, ⟨by omega, by have := HK.out; omega⟩, by repeat (first | exact Drawn0.refl _ | apply Drawn0.step)⟩
    · have hk : k = l.length := by have := HK.out.1; omega
      subst hk
      go_wp2
      go_ret
      exact ⟨rfl, by repeat (first | exact Drawn0.refl _ | apply Drawn0.step)⟩
set_option maxRecDepth 100000 in
set_option maxHeartbeats 4000000 in
theorem Same_good (s : Rep) (A5 A7 A8 A9 A10 B5 B7 B8 B9 B10 : Option Addr) (a5 a7 a8 a9 a10 b5 b7 b8 b9 b10 : Nat) (w : World) (h : RdRep w s A5 A7 A8 A9 A10) (h' : RdRep w s B5 B7 B8 B9 B10) (hn : Small s) :
    Calls Tryz.prog 36 #[.agg #[.int .i64 s.f0, .int .i64 s.f1, .int .i64 s.f2, .int .i64 s.f3, .int .i64 s.f4, .slice A5 s.f5.length a5, .int .i64 s.f6, .slice A7 s.f7.length a7, .slice A8 s.f8.length a8, .slice A9 s.f9.length a9, .slice A10 s.f10.length a10, .int .i64 s.f11, .int .i64 s.f12], .agg #[.int .i64 s.f0, .int .i64 s.f1, .int .i64 s.f2, .int .i64 s.f3, .int .i64 s.f4, .slice B5 s.f5.length b5, .int .i64 s.f6, .slice B7 s.f7.length b7, .slice B8 s.f8.length b8, .slice B9 s.f9.length b9, .slice B10 s.f10.length b10, .int .i64 s.f11, .int .i64 s.f12]] w fun e w' => e = .returned (.bool true) ∧ Mem w w' [] := by
  have H := Aside0.mk h
  have H' := Aside0.mk h'
  have HN := Aside0.mk hn
  have M1 := Aside0.mk (((Mem.nil w).alloc #[.int .i64 s.f0, .int .i64 s.f1, .int .i64 s.f2, .int .i64 s.f3, .int .i64 s.f4, .slice A5 s.f5.length a5, .int .i64 s.f6, .slice A7 s.f7.length a7, .slice A8 s.f8.length a8, .slice A9 s.f9.length a9, .slice A10 s.f10.length a10, .int .i64 s.f11, .int .i64 s.f12] 25).allocAt #[.int .i64 s.f0, .int .i64 s.f1, .int .i64 s.f2, .int .i64 s.f3, .int .i64 s.f4, .slice B5 s.f5.length b5, .int .i64 s.f6, .slice B7 s.f7.length b7, .slice B8 s.f8.length b8, .slice B9 s.f9.length b9, .slice B10 s.f10.length b10, .int .i64 s.f11, .int .i64 s.f12] 25 (w.heap.size + 1) (by simp))
  clear h h' hn
  have e0 : (s.f0 == s.f0) = true := by simp
  have e1 : (s.f1 == s.f1) = true := by simp
  have e2 : (s.f2 == s.f2) = true := by simp
  have e3 : (s.f3 == s.f3) = true := by simp
  have e4 : (s.f4 == s.f4) = true := by simp
  have e6 : (s.f6 == s.f6) = true := by simp
  have e11 : (s.f11 == s.f11) = true := by simp
  have e12 : (s.f12 == s.f12) = true := by simp
  go_enter Tryz.func36, Tryz.ntmps36
  go_wp2_with fail
  refine (Ms.logs_calls A5 B5 a5 b5 s.f5 _ (Kd.C_below H.out.h5 M1.out.below) (Kd.C_below H'.out.h5 M1.out.below) HN.out.1).mono ?_
  rintro e w1 ⟨rfl, hD⟩
  have M2 := Aside0.mk (M1.out.drawn hD)
  clear hD M1
  have cA := blk_cell (M2.out.blk_at 1 rfl)
  have cB := blk_cell (M2.out.blk_at 0 rfl)
  go_wp2_with fail
  refine (Ms.logs_calls A10 B10 a10 b10 s.f10 _ (Kd.C_below H.out.h10 M2.out.below) (Kd.C_below H'.out.h10 M2.out.below) HN.out.2.2.2.2).mono ?_
  rintro e w2 ⟨rfl, hD⟩
  have M3 := Aside0.mk (M2.out.drawn hD)
  clear hD M2 cA cB
  have cA := blk_cell (M3.out.blk_at 1 rfl)
  have cB := blk_cell (M3.out.blk_at 0 rfl)
  go_wp2_with fail
  refine (ints_calls A7 B7 a7 b7 s.f7 _ (Kd.C_below H.out.h7 M3.out.below) (Kd.C_below H'.out.h7 M3.out.below) HN.out.2.1).mono ?_
  rintro e w3 ⟨rfl, hD⟩
  have M4 := Aside0.mk (M3.out.drawn hD)
  clear hD M3 cA cB
  have cA := blk_cell (M4.out.blk_at 1 rfl)
  have cB := blk_cell (M4.out.blk_at 0 rfl)
  go_wp2_with fail
  refine (ints_calls A8 B8 a8 b8 s.f8 _ (Kd.C_below H.out.h8 M4.out.below) (Kd.C_below H'.out.h8 M4.out.below) HN.out.2.2.1).mono ?_
  rintro e w4 ⟨rfl, hD⟩
  have M5 := Aside0.mk (M4.out.drawn hD)
  clear hD M4 cA cB
  have cA := blk_cell (M5.out.blk_at 1 rfl)
  have cB := blk_cell (M5.out.blk_at 0 rfl)
  go_wp2_with fail
  refine (ints_calls A9 B9 a9 b9 s.f9 _ (Kd.C_below H.out.h9 M5.out.below) (Kd.C_below H'.out.h9 M5.out.below) HN.out.2.2.2.1).mono ?_
  rintro e w5 ⟨rfl, hD⟩
  have M6 := Aside0.mk (M5.out.drawn hD)
  clear hD M5 cA cB
  have cA := blk_cell (M6.out.blk_at 1 rfl)
  have cB := blk_cell (M6.out.blk_at 0 rfl)
  go_wp2
  go_ret
  exact ⟨rfl, Mem.sel (ps := [_, _]) (F := []) [] 2 M6.out rfl rfl⟩
end Go.Proofs.YtggbjokhniigkaaGreat.Sm
