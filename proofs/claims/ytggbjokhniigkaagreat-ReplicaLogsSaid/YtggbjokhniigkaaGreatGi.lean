/- Texts laid together: To, Tr. No condition. -/
import Derived.Test.YtggbjokhniigkaaGreatGc
import Derived.Test.YtggbjokhniigkaaGreatGg
import Derived.Test.YtggbjokhniigkaaGreatGh
import Derived.Test.YtggbjokhniigkaaGreatTnq
import Derived.Deep.RegionHeld3
/- The reference's message to one. -/
namespace Go.Proofs.YtggbjokhniigkaaGreat.To
open Go.Proofs.YtggbjokhniigkaaGreat.Ty Go.RowKit Go.Proofs.YtggbjokhniigkaaGreatW.PrintWords Go.Proofs.YtggbjokhniigkaaGreatW.PrintLast Go.Proofs.YtggbjokhniigkaaGreatW.PrintMore Go.Proofs.YtggbjokhniigkaaGreat.Mx Go.Proofs.YtggbjokhniigkaaGreat.Kx Go.Proofs.YtggbjokhniigkaaGreat.Wa
set_option linter.unusedVariables false
set_option linter.unusedSimpArgs false
/-- A block just laid out is a row of one element, whose own rows are told as a resource. -/
theorem lit1 {w0 w : World} {rs : List Res} {α : Type} (h : Mem w0 w rs) (i j : Nat) (hij : i ≠ j) (d : Kd α) {e : TypeId} {g : Nat} {cs : List Value} (p : α) (hi : rs[i]? = some (blk g e cs.toArray)) (hj : rs[j]? = some (el d p cs)) (hs : cs.length = d.sz) :
    Mem w0 w ((rs.set i (Mx.row d e (.slice (some ⟨g, 0, none⟩) 1 1) [p])).set j emp) := by
  obtain ⟨f, q, h1, h2, hf, hq, hd, h3⟩ := h.take2 hi hj hij
  refine h3 w _ rfl rfl rfl (Nat.le_refl _) (fun _ _ _ _ => rfl) ?_
  refine ⟨fun k hk => ?_, cs, ⟨by simpa using hs, .inr ⟨g, 1, cs.toArray, rfl, Nat.zero_le _, h1.1, Nat.le_refl _, by unfold maxLen; omega, by simpa using hs, ?_⟩⟩, ⟨by simpa using hs, fun j p' hj' => ?_⟩⟩
  · have : g = k := by simpa [Value.ownBlock] using hk
    subst this
    exact .inl h1.2
  · rw [List.take_of_length_le]
    simpa using Nat.le_of_eq hs
  · cases j with
    | zero =>
      obtain rfl : p = p' := by simpa using hj'
      have : (cs.drop (0 * d.sz)).take d.sz = cs := by
        rw [Nat.zero_mul, List.drop_zero, List.take_of_length_le (by omega)]
      rw [this]
      refine d.M_mono (fun k hk => ⟨.inr (.inl hk), fun he => ?_⟩) h2
      have : k = g := by simpa [Value.ownBlock] using he
      subst this
      exact hd k h1.2 hk
    | succ j => simp at hj'
set_option maxRecDepth 100000 in
set_option maxHeartbeats 4000000 in
theorem one11_calls (w0 w : World) (Rm : Res) (F : List Res) (g : Nat) (i n vw nr hw : Int) (vl : Value) (cm : Int) (va vv vo vb : Value) (bv bd : Int) (to_ m0 m1 m2 m3 m4 m5 m6 : Int) (A : Option Addr) (c : Nat) (l : List Entry)
    (hM : Mem w0 w (Rm :: blk g 25 #[.int .i64 i, .int .i64 n, .int .i64 vw, .int .i64 nr, .int .i64 hw, vl, .int .i64 cm, va, vv, vo, vb, .int .i64 bv, .int .i64 bd] :: F)) (hl : Rd w0 Rm kE A l) (hn : l.length ≤ 1000000000) (hc : l.length ≤ c) :
    Calls Tryz.prog 72 #[.pointer (some ⟨g, 0, none⟩), .int .i64 to_, .agg #[.int .i64 m0, .int .i64 m1, .int .i64 m2, .int .i64 m3, .int .i64 m4, .int .i64 m5, .int .i64 m6, .slice A l.length c]] w fun e w' =>
      ∃ vout : Value, e = .returned vout ∧ Mem w0 w' (row kM 27 vout [⟨m0, i, to_, vw, m4, m5, m6, l⟩] :: Rm :: blk g 25 #[.int .i64 i, .int .i64 n, .int .i64 vw, .int .i64 nr, .int .i64 hw, vl, .int .i64 cm, va, vv, vo, vb, .int .i64 bv, .int .i64 bd] :: F) := by
  have HN := Aside0.mk hn
  have hg : g < w.heap.size := blk_lt (hM.blk_at 1 rfl)
  have M3 := Aside0.mk (hM.allocAt #[.int .i64 m0, .int .i64 i, .int .i64 to_, .int .i64 vw, .int .i64 m4, .int .i64 m5, .int .i64 m6, .slice A l.length c] 27 _ rfl)
  have HCC := Aside0.mk (hl _ _ 1 M3.out rfl)
  have cG := blk_cell (hM.blk_at 1 rfl)
  have ngb : ¬ g = w.heap.size := by omega
  have nbg : ¬ w.heap.size = g := by omega
  clear hM hl hn hc
  go_enter Tryz.func72, Tryz.ntmps72
  go_wp2_with (((with_reducible refine gate_builtin (b := .append) (xs := #[.tmp 19, .tmp 21]) rfl ?_); at_builtin; refine Mem.app kE ((M3.out.allocAt #[] 68 (w.heap.size + 1) (by simp)).lit 0 kE [] rfl (Reps.none _ _) (by decide)) 0 _ [] l rfl (.tmp 19) (.tmp 21) 22 68 _ _ rfl Tryz.underlying22 infoEntry rfl (by decide) (by omega) A _ c rfl rfl rfl (Kd.C_alloc HCC.out _) (fun x cs h => h) (by have := HN.out; simp; omega) ?_; intro v1 w1 hM1; have M4 := Aside0.mk (show Mem _ _ (row kE _ v1 l :: _) from hM1); clear hM1; obtain ⟨A2, c2, he, hc2, _⟩ := M4.out.row_at 0 rfl; subst he; have cB4 := blk_cell (M4.out.blk_at 1 rfl); have fB4 := blk_frozen (M4.out.blk_at 1 rfl)))
  go_ret
  have M5 := M4.out.set 1 rfl 7 (.slice A2 l.length c2)
  have M6 := (M5.imp (i := 0) rfl (el kM ⟨m0, i, to_, vw, m4, m5, m6, l⟩ [.int .i64 m0, .int .i64 i, .int .i64 to_, .int .i64 vw, .int .i64 m4, .int .i64 m5, .int .i64 m6, .slice A2 l.length c2]) (fun f hf => kM_mkM _ _ _ ⟨m0, i, to_, vw, m4, m5, m6, l⟩ hf)).allocAt #[.int .i64 m0, .int .i64 i, .int .i64 to_, .int .i64 vw, .int .i64 m4, .int .i64 m5, .int .i64 m6, .slice A2 l.length c2] 27 w1.heap.size (by simp)
  exact ⟨_, rfl, Mem.sel (ps := [_, _, _, _, _]) (F := F) [0, 3, 4] 5 (lit1 M6 0 1 (by decide) kM (cs := [.int .i64 m0, .int .i64 i, .int .i64 to_, .int .i64 vw, .int .i64 m4, .int .i64 m5, .int .i64 m6, .slice A2 l.length c2]) ⟨m0, i, to_, vw, m4, m5, m6, l⟩ rfl rfl rfl) rfl rfl⟩
end Go.Proofs.YtggbjokhniigkaaGreat.To
/- Walks: the reference's Take: refused, and an ask. -/
namespace Go.Proofs.YtggbjokhniigkaaGreat.Tr
open Go.Proofs.YtggbjokhniigkaaGreat.Ve Go.Proofs.YtggbjokhniigkaaGreat.Ty Go.RowKit Go.Proofs.YtggbjokhniigkaaGreatW.PrintWords Go.Proofs.YtggbjokhniigkaaGreatW.PrintLast Go.Proofs.YtggbjokhniigkaaGreatW.PrintMore Go.Proofs.YtggbjokhniigkaaGreat.Mx Go.Proofs.YtggbjokhniigkaaGreat.Kx Go.Proofs.YtggbjokhniigkaaGreat.Wa Go.Proofs.YtggbjokhniigkaaGreat.Wb Go.Proofs.YtggbjokhniigkaaGreat.Wc Go.Proofs.YtggbjokhniigkaaGreat.Wd Go.Proofs.YtggbjokhniigkaaGreat.Vc Go.Proofs.YtggbjokhniigkaaGreat.Rd Go.Proofs.YtggbjokhniigkaaGreat.Wj Go.Proofs.YtggbjokhniigkaaGreat.Tk Go.Proofs.YtggbjokhniigkaaGreat.Tn Go.Proofs.YtggbjokhniigkaaGreat.To
set_option linter.unusedVariables false
set_option linter.unusedSimpArgs false
/-- What is handed back: it reads as s, and what was there stays. -/
def OutS (w w' : World) (e : Ending) (s : Rep) (msgs : List Msg) (code : Int) : Prop :=
  ∃ (B5 B7 B8 B9 B10 Bo : Option Addr) (d5 d7 d8 d9 d10 co : Nat), e = .returned (.tuple #[.agg #[.int .i64 s.f0, .int .i64 s.f1, .int .i64 s.f2, .int .i64 s.f3, .int .i64 s.f4, .slice B5 s.f5.length d5, .int .i64 s.f6, .slice B7 s.f7.length d7, .slice B8 s.f8.length d8, .slice B9 s.f9.length d9, .slice B10 s.f10.length d10, .int .i64 s.f11, .int .i64 s.f12], .slice Bo msgs.length co, .int .i64 code]) ∧ RdRep w' s B5 B7 B8 B9 B10 ∧ Fit s d5 d7 d8 d9 d10 ∧ Kd.C kM w' Bo msgs.length msgs ∧ msgs.length ≤ co ∧ Below w.heap.size w w'
theorem OutS_of {w w' : World} {s : Rep} {msgs : List Msg} {code : Int} {v5 v7 v8 v9 v10 vo : Value} {F : List Res} (hM : Mem w w' (row kE 68 v5 s.f5 :: row (Kd.int .i64) 3 v7 s.f7 :: row (Kd.int .i64) 3 v8 s.f8 :: row (Kd.int .i64) 3 v9 s.f9 :: row kE 68 v10 s.f10 :: row kM 27 vo msgs :: F)) :
    OutS w w' (.returned (.tuple #[.agg #[.int .i64 s.f0, .int .i64 s.f1, .int .i64 s.f2, .int .i64 s.f3, .int .i64 s.f4, v5, .int .i64 s.f6, v7, v8, v9, v10, .int .i64 s.f11, .int .i64 s.f12], vo, .int .i64 code])) s msgs code := by
  obtain ⟨B5, d5, rfl, h5, g5⟩ := hM.row_at 0 rfl
  obtain ⟨B7, d7, rfl, h7, g7⟩ := hM.row_at 1 rfl
  obtain ⟨B8, d8, rfl, h8, g8⟩ := hM.row_at 2 rfl
  obtain ⟨B9, d9, rfl, h9, g9⟩ := hM.row_at 3 rfl
  obtain ⟨B10, d10, rfl, h10, g10⟩ := hM.row_at 4 rfl
  obtain ⟨Bo, co, rfl, ho, go⟩ := hM.row_at 5 rfl
  exact ⟨B5, B7, B8, B9, B10, Bo, d5, d7, d8, d9, d10, co, rfl, ⟨g5, g7, g8, g9, g10⟩, ⟨h5, h7, h8, h9, h10⟩, go, ho, hM.below⟩
set_option maxRecDepth 100000 in
set_option maxHeartbeats 8000000 in
theorem Take11_e1 (r : Rep) (m : Msg) (A5 A7 A8 A9 A10 A : Option Addr) (c5 c7 c8 c9 c10 c : Nat) (w : World) (h : RdRep w r A5 A7 A8 A9 A10) (hc : Fit r c5 c7 c8 c9 c10) (hs : r.f5.length ≤ 1200 ∧ r.f7.length ≤ 20 ∧ r.f8.length ≤ 20 ∧ r.f9.length ≤ 20 ∧ r.f10.length ≤ 1200) (hl : Kd.C kE w A m.f7.length m.f7) (hlc : m.f7.length ≤ c) (hln : m.f7.length ≤ 1000000) (h1 : may r = false) :
    Calls Tryz.prog 35 #[.agg #[.int .i64 r.f0, .int .i64 r.f1, .int .i64 r.f2, .int .i64 r.f3, .int .i64 r.f4, .slice A5 r.f5.length c5, .int .i64 r.f6, .slice A7 r.f7.length c7, .slice A8 r.f8.length c8, .slice A9 r.f9.length c9, .slice A10 r.f10.length c10, .int .i64 r.f11, .int .i64 r.f12], .agg #[.int .i64 m.f0, .int .i64 m.f1, .int .i64 m.f2, .int .i64 m.f3, .int .i64 m.f4, .int .i64 m.f5, .int .i64 m.f6, .slice A m.f7.length c]] w fun e w' => OutS w w' e r [] 1 := by
  have E1 := Aside0.mk h1
  clear h1
  have H := Aside0.mk h
  have HC := Aside0.mk hc
  have HS := Aside0.mk hs
  have HL := Aside0.mk hl
  have HLC := Aside0.mk hlc
  have HLN := Aside0.mk hln
  have M1 := Aside0.mk ((((Mem.nil w).alloc #[.int .i64 r.f0, .int .i64 r.f1, .int .i64 r.f2, .int .i64 r.f3, .int .i64 r.f4, .slice A5 r.f5.length c5, .int .i64 r.f6, .slice A7 r.f7.length c7, .slice A8 r.f8.length c8, .slice A9 r.f9.length c9, .slice A10 r.f10.length c10, .int .i64 r.f11, .int .i64 r.f12] 25).allocAt #[.int .i64 m.f0, .int .i64 m.f1, .int .i64 m.f2, .int .i64 m.f3, .int .i64 m.f4, .int .i64 m.f5, .int .i64 m.f6, .slice A m.f7.length c] 27 (w.heap.size + 1) (by simp)).allocAt #[.int .i64 0, .int .i64 0, .int .i64 0, .int .i64 0, .int .i64 0, .slice none 0 0, .int .i64 0, .slice none 0 0, .slice none 0 0, .slice none 0 0, .slice none 0 0, .int .i64 0, .int .i64 0] 25 (w.heap.size + 2) (by simp))
  clear h hc hs hl hlc hln
  go_enter Tryz.func35, Tryz.ntmps35
  go_wp2_with fail
  refine (May11_calls r A5 A7 A8 A9 A10 c5 c7 c8 c9 c10 _ (H.out.below M1.out.below) HC.out HS.out).mono ?_
  rintro e w1 ⟨he, hb⟩
  rw [E1.out] at he
  subst he
  have M2 := Aside0.mk (M1.out.grow hb)
  clear hb M1
  have cR := blk_cell (M2.out.blk_at 2 rfl)
  have cM := blk_cell (M2.out.blk_at 1 rfl)
  have cZ := blk_cell (M2.out.blk_at 0 rfl)
  have fZ := blk_frozen (M2.out.blk_at 0 rfl)
  go_wp2_with fail
  all_goals
    have MF := (M2.out.setRow 0 rfl [.int .i64 r.f0, .int .i64 r.f1, .int .i64 r.f2, .int .i64 r.f3, .int .i64 r.f4, .slice A5 r.f5.length c5, .int .i64 r.f6, .slice A7 r.f7.length c7, .slice A8 r.f8.length c8, .slice A9 r.f9.length c9, .slice A10 r.f10.length c10, .int .i64 r.f11, .int .i64 r.f12] rfl)
    have hgF := MF.blk_at 0 rfl
    refine bodyPost_ret (results_list (rs := [.cell 4 25, .tmp 5, .tmp 6]) rfl (by simp) (.cell (w.heap.size + 2) 25 #[.int .i64 r.f0, .int .i64 r.f1, .int .i64 r.f2, .int .i64 r.f3, .int .i64 r.f4, .slice A5 r.f5.length c5, .int .i64 r.f6, .slice A7 r.f7.length c7, .slice A8 r.f8.length c8, .slice A9 r.f9.length c9, .slice A10 r.f10.length c10, .int .i64 r.f11, .int .i64 r.f12] (0, 0) _ rfl hgF Tryz.underlying25 rfl (by kernel_rfl) (.tmp (.tmp .nil)))) rfl ?_
    exact ⟨A5, A7, A8, A9, A10, none, c5, c7, c8, c9, c10, 0, rfl, H.out.below MF.below, HC.out, C_zero _, Nat.le_refl _, MF.below⟩
set_option maxRecDepth 100000 in
set_option maxHeartbeats 8000000 in
theorem Take11_e2 (r : Rep) (m : Msg) (A5 A7 A8 A9 A10 A : Option Addr) (c5 c7 c8 c9 c10 c : Nat) (w : World) (h : RdRep w r A5 A7 A8 A9 A10) (hc : Fit r c5 c7 c8 c9 c10) (hs : r.f5.length ≤ 1200 ∧ r.f7.length ≤ 20 ∧ r.f8.length ≤ 20 ∧ r.f9.length ≤ 20 ∧ r.f10.length ≤ 1200) (hl : Kd.C kE w A m.f7.length m.f7) (hlc : m.f7.length ≤ c) (hln : m.f7.length ≤ 1000000) (h1 : may r = true) (h2 : mayMsg r m = false) :
    Calls Tryz.prog 35 #[.agg #[.int .i64 r.f0, .int .i64 r.f1, .int .i64 r.f2, .int .i64 r.f3, .int .i64 r.f4, .slice A5 r.f5.length c5, .int .i64 r.f6, .slice A7 r.f7.length c7, .slice A8 r.f8.length c8, .slice A9 r.f9.length c9, .slice A10 r.f10.length c10, .int .i64 r.f11, .int .i64 r.f12], .agg #[.int .i64 m.f0, .int .i64 m.f1, .int .i64 m.f2, .int .i64 m.f3, .int .i64 m.f4, .int .i64 m.f5, .int .i64 m.f6, .slice A m.f7.length c]] w fun e w' => OutS w w' e r [] 1 := by
  have E1 := Aside0.mk h1
  have MSG : Aside0 (∀ w', Kd.C kE w' A m.f7.length m.f7 → Calls Tryz.prog 66 #[.agg #[.int .i64 r.f0, .int .i64 r.f1, .int .i64 r.f2, .int .i64 r.f3, .int .i64 r.f4, .slice A5 r.f5.length c5, .int .i64 r.f6, .slice A7 r.f7.length c7, .slice A8 r.f8.length c8, .slice A9 r.f9.length c9, .slice A10 r.f10.length c10, .int .i64 r.f11, .int .i64 r.f12], .agg #[.int .i64 m.f0, .int .i64 m.f1, .int .i64 m.f2, .int .i64 m.f3, .int .i64 m.f4, .int .i64 m.f5, .int .i64 m.f6, .slice A m.f7.length c]] w' fun e w'' => e = .returned (.bool false) ∧ Mem w' w'' []) :=
    ⟨fun w' h => by have := message11_calls r m A5 A7 A8 A9 A10 A c5 c7 c8 c9 c10 c w' h hlc hln; rw [h2] at this; exact this⟩
  clear h1 h2
  have H := Aside0.mk h
  have HC := Aside0.mk hc
  have HS := Aside0.mk hs
  have HL := Aside0.mk hl
  have HLC := Aside0.mk hlc
  have HLN := Aside0.mk hln
  have M1 := Aside0.mk ((((Mem.nil w).alloc #[.int .i64 r.f0, .int .i64 r.f1, .int .i64 r.f2, .int .i64 r.f3, .int .i64 r.f4, .slice A5 r.f5.length c5, .int .i64 r.f6, .slice A7 r.f7.length c7, .slice A8 r.f8.length c8, .slice A9 r.f9.length c9, .slice A10 r.f10.length c10, .int .i64 r.f11, .int .i64 r.f12] 25).allocAt #[.int .i64 m.f0, .int .i64 m.f1, .int .i64 m.f2, .int .i64 m.f3, .int .i64 m.f4, .int .i64 m.f5, .int .i64 m.f6, .slice A m.f7.length c] 27 (w.heap.size + 1) (by simp)).allocAt #[.int .i64 0, .int .i64 0, .int .i64 0, .int .i64 0, .int .i64 0, .slice none 0 0, .int .i64 0, .slice none 0 0, .slice none 0 0, .slice none 0 0, .slice none 0 0, .int .i64 0, .int .i64 0] 25 (w.heap.size + 2) (by simp))
  clear h hc hs hl hlc hln
  go_enter Tryz.func35, Tryz.ntmps35
  go_wp2_with fail
  refine (May11_calls r A5 A7 A8 A9 A10 c5 c7 c8 c9 c10 _ (H.out.below M1.out.below) HC.out HS.out).mono ?_
  rintro e w1 ⟨he, hb⟩
  rw [E1.out] at he
  subst he
  have M2 := Aside0.mk (M1.out.grow hb)
  clear hb M1
  have cR := blk_cell (M2.out.blk_at 2 rfl)
  have cM := blk_cell (M2.out.blk_at 1 rfl)
  have cZ := blk_cell (M2.out.blk_at 0 rfl)
  have fZ := blk_frozen (M2.out.blk_at 0 rfl)
  go_wp2_with fail
  refine (MSG.out _ (Kd.C_below HL.out M2.out.below)).mono ?_
  rintro e w2 ⟨rfl, hM⟩
  have M3 := Aside0.mk (Mem.sel (ps := [_, _, _]) (F := []) [0, 1, 2] 3 (M2.out.trans hM) rfl rfl)
  clear hM M2 cR cM cZ fZ
  have cR := blk_cell (M3.out.blk_at 2 rfl)
  have cM := blk_cell (M3.out.blk_at 1 rfl)
  have cZ := blk_cell (M3.out.blk_at 0 rfl)
  have fZ := blk_frozen (M3.out.blk_at 0 rfl)
  go_wp2_with fail
  all_goals
    have MF := (M3.out.setRow 0 rfl [.int .i64 r.f0, .int .i64 r.f1, .int .i64 r.f2, .int .i64 r.f3, .int .i64 r.f4, .slice A5 r.f5.length c5, .int .i64 r.f6, .slice A7 r.f7.length c7, .slice A8 r.f8.length c8, .slice A9 r.f9.length c9, .slice A10 r.f10.length c10, .int .i64 r.f11, .int .i64 r.f12] rfl)
    have hgF := MF.blk_at 0 rfl
    refine bodyPost_ret (results_list (rs := [.cell 4 25, .tmp 5, .tmp 6]) rfl (by simp) (.cell (w.heap.size + 2) 25 #[.int .i64 r.f0, .int .i64 r.f1, .int .i64 r.f2, .int .i64 r.f3, .int .i64 r.f4, .slice A5 r.f5.length c5, .int .i64 r.f6, .slice A7 r.f7.length c7, .slice A8 r.f8.length c8, .slice A9 r.f9.length c9, .slice A10 r.f10.length c10, .int .i64 r.f11, .int .i64 r.f12] (0, 0) _ rfl hgF Tryz.underlying25 rfl (by kernel_rfl) (.tmp (.tmp .nil)))) rfl ?_
    exact ⟨A5, A7, A8, A9, A10, none, c5, c7, c8, c9, c10, 0, rfl, H.out.below MF.below, HC.out, C_zero _, Nat.le_refl _, MF.below⟩
end Go.Proofs.YtggbjokhniigkaaGreat.Tr
