/- Texts laid together: Tu2, Ub2, Lx, Mo, Tq. No condition. -/
import Derived.Deep.RegionHeld3
import Derived.Test.YtggbjokhniigkaaGreatYTz19
set_option linter.unusedVariables false
set_option linter.unusedSimpArgs false
set_option maxRecDepth 100000
set_option maxHeartbeats 8000000
namespace Go.Proofs.YtggbjokhniigkaaGreat.Tu2
open Ve Ty Go.RowKit YtggbjokhniigkaaGreatW.PrintWords YtggbjokhniigkaaGreatW.PrintLast YtggbjokhniigkaaGreatW.PrintMore Mx Kx Wa Wb Wc Wd Vc Rb Rd Sa Wj Tk Tn To Tr
theorem Take11_k2 (r : Rep) (m : Msg) (A5 A7 A8 A9 A10 A : Option Addr) (c5 c7 c8 c9 c10 c : Nat) (w : World) (h : RdRep w r A5 A7 A8 A9 A10) (hc : Fit r c5 c7 c8 c9 c10) (hs : r.f5.length ≤ 1200 ∧ r.f7.length ≤ 20 ∧ r.f8.length ≤ 20 ∧ r.f9.length ≤ 20 ∧ r.f10.length ≤ 1200) (hl : Kd.C kE w A m.f7.length m.f7) (hlc : m.f7.length ≤ c) (hln : m.f7.length ≤ 1000000) (hk : m.f0 = 2) (h1 : may r = true) (h2 : mayMsg r m = true) (s : Rep) (msgs : List Msg)
    (hcall : ∀ (F : List Res) (g : Nat) (v5 v7 v8 v9 v10 : Value) (w1 : World), Mem w w1 (blk g 25 (qc r.f0 r.f1 r.f2 r.f3 r.f4 v5 r.f6 v7 v8 v9 v10 r.f11 r.f12) :: Kx.sL r v5 v7 v8 v9 v10 F) → Kd.C kE w A m.f7.length m.f7 → Calls Tryz.prog 71 #[.pointer (some ⟨g, 0, none⟩), .agg #[.int .i64 m.f0, .int .i64 m.f1, .int .i64 m.f2, .int .i64 m.f3, .int .i64 m.f4, .int .i64 m.f5, .int .i64 m.f6, .slice A m.f7.length c]] w1 fun e w' => ∃ vout v5' v7' v8' v9' v10' : Value, e = .returned vout ∧ Mem w w' (blk g 25 (qc s.f0 s.f1 s.f2 s.f3 s.f4 v5' s.f6 v7' v8' v9' v10' s.f11 s.f12) :: row kE 68 v5' s.f5 :: row (Kd.int .i64) 3 v7' s.f7 :: row (Kd.int .i64) 3 v8' s.f8 :: row (Kd.int .i64) 3 v9' s.f9 :: row kE 68 v10' s.f10 :: row kM 27 vout msgs :: F)) :
    Calls Tryz.prog 35 #[.agg (Kx.rA r A5 A7 A8 A9 A10 c5 c7 c8 c9 c10), .agg #[.int .i64 m.f0, .int .i64 m.f1, .int .i64 m.f2, .int .i64 m.f3, .int .i64 m.f4, .int .i64 m.f5, .int .i64 m.f6, .slice A m.f7.length c]] w fun e w' => OutS w w' e s msgs 0 := by
  have E1 := Aside0.mk h1
  have CALL := Aside0.mk hcall
  have MSG : Aside0 (∀ w', Kd.C kE w' A m.f7.length m.f7 → Calls Tryz.prog 66 #[.agg (Kx.rA r A5 A7 A8 A9 A10 c5 c7 c8 c9 c10), .agg #[.int .i64 2, .int .i64 m.f1, .int .i64 m.f2, .int .i64 m.f3, .int .i64 m.f4, .int .i64 m.f5, .int .i64 m.f6, .slice A m.f7.length c]] w' fun e w'' => e = .returned (.bool true) ∧ Mem w' w'' []) :=
    ⟨fun w' h => by have := message11_calls r m A5 A7 A8 A9 A10 A c5 c7 c8 c9 c10 c w' h hlc hln; (try unfold Kx.mA at this); rw [h2, hk] at this; exact this⟩
  clear h1 h2
  rw [hk] at hcall CALL ⊢
  clear hk hcall
  have H := Aside0.mk h
  have HC := Aside0.mk hc
  have HS := Aside0.mk hs
  have HL := Aside0.mk hl
  have HLC := Aside0.mk hlc
  have HLN := Aside0.mk hln
  have M1 := Aside0.mk ((((Mem.nil w).alloc (Kx.rA r A5 A7 A8 A9 A10 c5 c7 c8 c9 c10) 25).allocAt #[.int .i64 2, .int .i64 m.f1, .int .i64 m.f2, .int .i64 m.f3, .int .i64 m.f4, .int .i64 m.f5, .int .i64 m.f6, .slice A m.f7.length c] 27 (w.heap.size + 1) (by simp)).allocAt #[.int .i64 0, .int .i64 0, .int .i64 0, .int .i64 0, .int .i64 0, .slice none 0 0, .int .i64 0, .slice none 0 0, .slice none 0 0, .slice none 0 0, .slice none 0 0, .int .i64 0, .int .i64 0] 25 (w.heap.size + 2) (by simp))
  clear h hc hs hl hlc hln
  go_enter Tryz.func35, Tryz.ntmps35
  go_wp2_with fail
  refine (May11_calls r A5 A7 A8 A9 A10 c5 c7 c8 c9 c10 _ (H.out.below M1.out.below) HC.out HS.out).mono ?_
  rintro e w1 ⟨he, hb⟩
  rw [E1.out] at he
  subst he
  have M2 := Aside0.mk (M1.out.grow hb)
  clear hb M1
  have cR := blk_cell (M2.out.blk_at 2 rfl)
  have cM := blk_cell (M2.out.blk_at 1 rfl)
  have cZ := blk_cell (M2.out.blk_at 0 rfl)
  have fZ := blk_frozen (M2.out.blk_at 0 rfl)
  go_wp2_with fail
  refine (MSG.out _ (Kd.C_below HL.out M2.out.below)).mono ?_
  rintro e w2 ⟨rfl, hM⟩
  have M3 := Aside0.mk (Mem.sel (ps := [_, _, _]) (F := []) [0, 1, 2] 3 (M2.out.trans hM) rfl rfl)
  clear hM M2 cR cM cZ fZ
  have cR := blk_cell (M3.out.blk_at 2 rfl)
  have cM := blk_cell (M3.out.blk_at 1 rfl)
  have cZ := blk_cell (M3.out.blk_at 0 rfl)
  have fZ := blk_frozen (M3.out.blk_at 0 rfl)
  go_wp2_with fail
  refine (Copy11_calls r A5 A7 A8 A9 A10 c5 c7 c8 c9 c10 _ (H.out.below M3.out.below) ⟨Nat.le_trans HS.out.1 (by decide), Nat.le_trans HS.out.2.1 (by decide), Nat.le_trans HS.out.2.2.1 (by decide), Nat.le_trans HS.out.2.2.2.1 (by decide), Nat.le_trans HS.out.2.2.2.2 (by decide)⟩).mono ?_
  rintro e w3 ⟨v5, v7, v8, v9, v10, rfl, hM⟩
  unfold rc
  obtain ⟨B5, d5, rfl, _, _⟩ := hM.row_at 0 rfl
  obtain ⟨B7, d7, rfl, _, _⟩ := hM.row_at 1 rfl
  obtain ⟨B8, d8, rfl, _, _⟩ := hM.row_at 2 rfl
  obtain ⟨B9, d9, rfl, _, _⟩ := hM.row_at 3 rfl
  obtain ⟨B10, d10, rfl, hd10, _⟩ := hM.row_at 4 rfl
  have M4 := Aside0.mk ((Mem.sel (ps := [_, _, _, _, _, _, _, _]) (F := []) [0, 1, 2, 3, 4, 5, 6, 7] 8 (M3.out.trans hM) rfl rfl).allocAt #[.int .i64 r.f0, .int .i64 r.f1, .int .i64 r.f2, .int .i64 r.f3, .int .i64 r.f4, .slice B5 r.f5.length d5, .int .i64 r.f6, .slice B7 r.f7.length d7, .slice B8 r.f8.length d8, .slice B9 r.f9.length d9, .slice B10 r.f10.length d10, .int .i64 r.f11, .int .i64 r.f12] 25 w3.heap.size rfl)
  clear hM M3 cR cM cZ fZ
  have cX := blk_cell (M4.out.blk_at 0 rfl)
  have cM := blk_cell (M4.out.blk_at 7 rfl)
  have cZ := blk_cell (M4.out.blk_at 6 rfl)
  have fZ := blk_frozen (M4.out.blk_at 6 rfl)
  have hbX := blk_lt (M4.out.blk_at 0 rfl)
  have hbZ := blk_lt (M4.out.blk_at 6 rfl)
  go_wp2_with fail
  refine (CALL.out _ w3.heap.size _ _ _ _ _ _ (Mem.sel (ps := [_, _, _, _, _, _, _, _, _]) (F := []) [0, 1, 2, 3, 4, 5, 6, 7, 8] 9 M4.out rfl rfl) HL.out).mono ?_
  rintro e w4 ⟨vo, v5, v7, v8, v9, v10, rfl, hM⟩
  obtain ⟨S5, s5, rfl, _, _⟩ := hM.row_at 1 rfl
  obtain ⟨S7, s7, rfl, _, _⟩ := hM.row_at 2 rfl
  obtain ⟨S8, s8, rfl, _, _⟩ := hM.row_at 3 rfl
  obtain ⟨S9, s9, rfl, _, _⟩ := hM.row_at 4 rfl
  obtain ⟨S10, s10, rfl, _, _⟩ := hM.row_at 5 rfl
  obtain ⟨So, so, rfl, _, _⟩ := hM.row_at 6 rfl
  have M5 := Aside0.mk (Mem.sel (ps := [_, _, _, _, _, _, _, _, _, _]) (F := []) [1, 2, 3, 4, 5, 6, 0, 7, 8, 9] 10 hM rfl rfl)
  clear hM M4 cX cM cZ fZ hbX hbZ
  have cX := blk_cell (M5.out.blk_at 6 rfl)
  have cZ := blk_cell (M5.out.blk_at 7 rfl)
  have fZ := blk_frozen (M5.out.blk_at 7 rfl)
  have hbX := blk_lt (M5.out.blk_at 6 rfl)
  have hbZ := blk_lt (M5.out.blk_at 7 rfl)
  unfold qc at cX
  go_wp2_with fail
  all_goals
    have MF := (M5.out.setRow 7 rfl [.int .i64 s.f0, .int .i64 s.f1, .int .i64 s.f2, .int .i64 s.f3, .int .i64 s.f4, .slice S5 s.f5.length s5, .int .i64 s.f6, .slice S7 s.f7.length s7, .slice S8 s.f8.length s8, .slice S9 s.f9.length s9, .slice S10 s.f10.length s10, .int .i64 s.f11, .int .i64 s.f12] rfl)
    have hgF := MF.blk_at 7 rfl
    refine bodyPost_ret (results_list (rs := [.cell 4 25, .tmp 5, .tmp 6]) rfl (by simp) (.cell (w.heap.size + 2) 25 #[.int .i64 s.f0, .int .i64 s.f1, .int .i64 s.f2, .int .i64 s.f3, .int .i64 s.f4, .slice S5 s.f5.length s5, .int .i64 s.f6, .slice S7 s.f7.length s7, .slice S8 s.f8.length s8, .slice S9 s.f9.length s9, .slice S10 s.f10.length s10, .int .i64 s.f11, .int .i64 s.f12] (0, 0) _ rfl hgF Tryz.underlying25 rfl (by kernel_rfl) (.tmp (.tmp .nil)))) rfl ?_
    exact OutS_of (Mem.sel (ps := [_, _, _, _, _, _, _, _, _, _]) (F := []) [0, 1, 2, 3, 4, 5] 10 MF rfl rfl)
end Go.Proofs.YtggbjokhniigkaaGreat.Tu2
namespace Go.Proofs.YtggbjokhniigkaaGreat.Ub2
open Ty Go.RowKit YtggbjokhniigkaaGreatW.PrintWords YtggbjokhniigkaaGreatW.PrintLast YtggbjokhniigkaaGreatW.PrintMore Mx Kx Wa Wb Wc Wd Vc Sa Wj Tk Tb Tn Tt Tx Tr Tz Ua Tt2 Tu2
theorem both_2 (r : Rep) (m : Msg) (A5 A7 A8 A9 A10 A : Option Addr) (c5 c7 c8 c9 c10 c : Nat) (hk : m.f0 = 2) (hc : Fit r c5 c7 c8 c9 c10) (hs : r.f5.length ≤ 1200 ∧ r.f7.length ≤ 20 ∧ r.f8.length ≤ 20 ∧ r.f9.length ≤ 20 ∧ r.f10.length ≤ 1200) (hln : m.f7.length ≤ 1200) (hlc : m.f7.length ≤ c)
    (hgood : may r = true → mayM r m = true → ∃ (s : Rep) (msgs : List Msg), FewOf s msgs ∧
      (∀ (w0 w : World) (F : List Res) (g : Nat) (v5 v7 v8 v9 v10 : Value), Mem w0 w (blk g 95 (Wa.wc r.f0 r.f1 r.f2 r.f3 r.f4 v5 r.f6 v7 v8 v9 v10 r.f11 r.f12 (.slice none 0 0)) :: row kM 27 (.slice none 0 0) [] :: Kx.sL r v5 v7 v8 v9 v10 F) → Kd.C kE w0 A m.f7.length m.f7 → Calls Tryz.prog 104 #[.pointer (some ⟨g, 0, none⟩), .agg (Kx.mA m A c)] w fun e w' => e = .returned (.tuple #[]) ∧ ∃ v5' v7' v8' v9' v10' vout' : Value, Mem w0 w' (blk g 95 (Wa.wc s.f0 s.f1 s.f2 s.f3 s.f4 v5' s.f6 v7' v8' v9' v10' s.f11 s.f12 vout') :: row kM 27 vout' msgs :: Kx.sL s v5' v7' v8' v9' v10' F)) ∧
      (∀ (w0 w : World) (F : List Res) (g : Nat) (v5 v7 v8 v9 v10 : Value), Mem w0 w (blk g 25 (qc r.f0 r.f1 r.f2 r.f3 r.f4 v5 r.f6 v7 v8 v9 v10 r.f11 r.f12) :: Kx.sL r v5 v7 v8 v9 v10 F) → Kd.C kE w0 A m.f7.length m.f7 → Calls Tryz.prog 71 #[.pointer (some ⟨g, 0, none⟩), .agg (Kx.mA m A c)] w fun e w' => ∃ vout v5' v7' v8' v9' v10' : Value, e = .returned vout ∧ Mem w0 w' (blk g 25 (qc s.f0 s.f1 s.f2 s.f3 s.f4 v5' s.f6 v7' v8' v9' v10' s.f11 s.f12) :: row kE 68 v5' s.f5 :: row (Kd.int .i64) 3 v7' s.f7 :: row (Kd.int .i64) 3 v8' s.f8 :: row (Kd.int .i64) 3 v9' s.f9 :: row kE 68 v10' s.f10 :: row kM 27 vout msgs :: F))) : TakesAs r m A5 A7 A8 A9 A10 A c5 c7 c8 c9 c10 c := by
  refine takesAs_of r m A5 A7 A8 A9 A10 A c5 c7 c8 c9 c10 c (by omega) (by omega) hc hs hln hlc fun h1 h2 => ?_
  obtain ⟨s, msgs, hf, g1, g2⟩ := hgood h1 h2
  have hn : Small r := ⟨Nat.le_trans hs.1 (by decide), Nat.le_trans hs.2.1 (by decide), Nat.le_trans hs.2.2.1 (by decide), Nat.le_trans hs.2.2.2.1 (by decide), Nat.le_trans hs.2.2.2.2 (by decide)⟩
  refine ⟨s, msgs, hf, fun w h hl => ?_, fun w h hl => ?_⟩
  · exact Take_ok r m A5 A7 A8 A9 A10 A c5 c7 c8 c9 c10 c w h hn hl h1 s msgs (fun w0 w F g v5 v7 v8 v9 v10 hM hl => takes_2 w0 w F g r s m v5 v7 v8 v9 v10 (.slice none 0 0) msgs A c hk h2 hM hl (Nat.le_trans hln (by decide)) (fun F w hM => g1 w0 w F g v5 v7 v8 v9 v10 hM hl))
  · exact Take11_k2 r m A5 A7 A8 A9 A10 A c5 c7 c8 c9 c10 c w h hc hs hl hlc (Nat.le_trans hln (by decide)) hk h1 ((mayMsg_in r m (by omega) (by omega)).trans h2) s msgs (fun F g v5 v7 v8 v9 v10 w1 hM hl => g2 w w1 F g v5 v7 v8 v9 v10 hM hl)
end Go.Proofs.YtggbjokhniigkaaGreat.Ub2
namespace Go.Proofs.YtggbjokhniigkaaGreat.Lx
open Ty Go.RowKit YtggbjokhniigkaaGreatW.PrintWords YtggbjokhniigkaaGreatW.PrintLast YtggbjokhniigkaaGreatW.PrintMore Mx Kx Wa Tk We Sa Tl Wj Wd
abbrev wS (g : Nat) (r : Rep) (v5 : Value) (l5 : List Entry) (cm : Int) (v7 v8 v9 v10 vo : Value) (out : List Msg) (F : List Res) : List Res :=
  blk g 95 (Wa.wc r.f0 r.f1 r.f2 r.f3 r.f4 v5 cm v7 v8 v9 v10 r.f11 r.f12 vo) :: row kM 27 vo out :: row kE 68 v5 l5 :: row (Kd.int .i64) 3 v7 r.f7 :: row (Kd.int .i64) 3 v8 r.f8 :: row (Kd.int .i64) 3 v9 r.f9 :: row kE 68 v10 r.f10 :: F
abbrev qS (g : Nat) (r : Rep) (v5 : Value) (l5 : List Entry) (cm : Int) (v7 v8 v9 v10 : Value) (F : List Res) : List Res :=
  blk g 25 (qc r.f0 r.f1 r.f2 r.f3 r.f4 v5 cm v7 v8 v9 v10 r.f11 r.f12) :: row kE 68 v5 l5 :: row (Kd.int .i64) 3 v7 r.f7 :: row (Kd.int .i64) 3 v8 r.f8 :: row (Kd.int .i64) 3 v9 r.f9 :: row kE 68 v10 r.f10 :: F
abbrev mS (w : World) (x : Int) (m : Msg) (A : Option Addr) (c : Nat) (L : List Res) : List Res :=
  blk w.heap.size 27 #[.int .i64 m.f0, .int .i64 m.f1, .int .i64 m.f2, .int .i64 m.f3, .int .i64 x, .int .i64 m.f5, .int .i64 m.f6, .slice A m.f7.length c] :: L
theorem commit_calls (w0 w : World) (F : List Res) (g : Nat) (i n vw nr hw : Int) (A5 : Option Addr) (n5 c5 : Nat) (cm : Int) (va vv vo vb : Value) (bv bd : Int) (vout : Value) (k : Int)
    (hM : Mem w0 w (blk g 95 (Wa.wc i n vw nr hw (.slice A5 n5 c5) cm va vv vo vb bv bd vout) :: F)) (x : Int) (hx : max cm (min k (n5 : Int)) = x) :
    Calls Tryz.prog 128 #[.pointer (some ⟨g, 0, none⟩), .int .i64 k] w fun e w' => e = .returned (.tuple #[]) ∧ Mem w0 w' (blk g 95 (Wa.wc i n vw nr hw (.slice A5 n5 c5) x va vv vo vb bv bd vout) :: F) := by
  have HX := Aside0.mk hx
  have M1 := Aside0.mk hM
  have cG := blk_cell (hM.blk_at 0 rfl)
  have fG := blk_frozen (hM.blk_at 0 rfl)
  have hg := blk_lt (hM.blk_at 0 rfl)
  unfold Wa.wc at cG
  clear hM hx
  go_enter Tryz.func128, Tryz.ntmps128
  go_region
  all_goals
    go_wp2_with fail
    all_goals
      first | go_end0 | (refine bodyPost_ret (results_none rfl _ _ _) rfl ?_)
      have hx := HX.out
      clear cG fG hg
      first
        | (have e : x = (n5 : Int) := by omega
           subst e
           exact ⟨rfl, (M1.out.set 0 rfl 6 (.int .i64 (n5 : Int))).drew⟩)
        | (have e : x = cm := by omega
           subst e
           exact ⟨rfl, (M1.out.set 0 rfl 6 (.int .i64 x)).drew⟩)
        | (have e : x = k := by omega
           subst e
           exact ⟨rfl, (M1.out.set 0 rfl 6 (.int .i64 x)).drew⟩)
def LogDoes (w0 w : World) (F : List Res) (g : Nat) (m : Msg) (A : Option Addr) (c : Nat) (s : Rep) (out : List Msg) : Prop :=
  Calls Tryz.prog 109 #[.pointer (some ⟨g, 0, none⟩), .agg #[.int .i64 m.f0, .int .i64 m.f1, .int .i64 m.f2, .int .i64 m.f3, .int .i64 m.f4, .int .i64 m.f5, .int .i64 m.f6, .slice A m.f7.length c]] w fun e w' => e = .returned (.tuple #[]) ∧ ∃ v5' v7' v8' v9' v10' vout' : Value, Mem w0 w' (wS g s v5' s.f5 s.f6 v7' v8' v9' v10' vout' out F)
def LackDoes (w0 w : World) (F : List Res) (g : Nat) (m : Msg) (A : Option Addr) (c : Nat) (s : Rep) (out : List Msg) : Prop :=
  Calls Tryz.prog 73 #[.pointer (some ⟨g, 0, none⟩), .agg #[.int .i64 m.f0, .int .i64 m.f1, .int .i64 m.f2, .int .i64 m.f3, .int .i64 m.f4, .int .i64 m.f5, .int .i64 m.f6, .slice A m.f7.length c]] w fun e w' => ∃ vout v5' v7' v8' v9' v10' : Value, e = .returned vout ∧ Mem w0 w' (qS g s v5' s.f5 s.f6 v7' v8' v9' v10' (row kM 27 vout out :: F))
structure IdleIn (r : Rep) (m : Msg) : Prop where
  hx : 0 ≤ m.f4
  hx1 : m.f4 ≤ 4611686018427387904
  hlm : m.f7.length ≤ 1200
  hw0 : 0 ≤ r.f2
  hw1 : r.f2 ≤ 4611686018427387904
  hn0 : 0 < r.f1
  hn5 : r.f1 ≤ 5
structure LogIn (w0 : World) (r : Rep) (m : Msg) (A : Option Addr) (c k : Nat) : Prop where
  hl : Kd.C kE w0 A m.f7.length m.f7
  hlc : m.f7.length ≤ c
  hn : r.f5.length ≤ 1200
  hk : m.f4 = (k : Int)
  hkn : k ≤ r.f5.length
  hlm : m.f7.length ≤ 1200
  hcl : r.f6 ≤ (r.f5.length : Int)
  hw0 : 0 ≤ r.f2
  hw1 : r.f2 ≤ 4611686018427387904
  hi0 : 0 ≤ r.f0
  hi1 : r.f0 < r.f1
  hn5 : r.f1 ≤ 5
end Go.Proofs.YtggbjokhniigkaaGreat.Lx
namespace Go.Proofs.YtggbjokhniigkaaGreat.Mo
open Ty Go.RowKit YtggbjokhniigkaaGreatW.PrintWords YtggbjokhniigkaaGreatW.PrintLast YtggbjokhniigkaaGreatW.PrintMore Mx Kx Wa Wd Tk
theorem half {n : Int} (h : 0 ≤ n) : n.tdiv 2 = n / 2 := Int.tdiv_eq_ediv_of_nonneg h
theorem half_wrap {n : Int} (h : 0 ≤ n) (h2 : n ≤ 5) : wrap64 (n / 2 + 1) = most n ∧ IntKind.i64.wrap (n / 2 + 1) = most n ∧ wrap64 (n / 2) = n / 2 ∧ IntKind.i64.wrap (n / 2) = n / 2 := by
  unfold most
  refine ⟨?_, ?_, ?_, ?_⟩
  · unfold wrap64; omega
  · rw [IntKind.wrap_i64]; omega
  · unfold wrap64; omega
  · rw [IntKind.wrap_i64]; omega
theorem most_calls (w : World) (g : Nat) (i n vw nr hw : Int) (vl : Value) (cm : Int) (va vv vo vb : Value) (bv bd : Int) (vout : Value)
    (hb : w.heap[g]? = some (.cells (wc i n vw nr hw vl cm va vv vo vb bv bd vout) 95 (0, 0))) (hn : 0 ≤ n) (hn2 : n ≤ 5) :
    Calls Tryz.prog 131 #[.pointer (some ⟨g, 0, none⟩)] w fun e w' => e = .returned (.int .i64 (most n)) ∧ Drawn0 w w' := by
  have cB := blk_cell hb
  unfold wc at cB
  clear hb
  have ht := half hn
  obtain ⟨h1, h2, h3, h4⟩ := half_wrap hn hn2
  go_enter Tryz.func131, Tryz.ntmps131
  go_wp2
  (try go_quiet (fail))
  (try go_wp2)
  go_ret
  exact ⟨by first | rfl | (simp only [ht, h1, h2, h3, h4]; done) | (simp [ht, h1, h2, h3, h4]; done) | (unfold most; rfl), by repeat (first | exact Drawn0.refl _ | apply Drawn0.step)⟩
theorem most11_calls (w : World) (n : Int) (hn : 0 ≤ n) (hn2 : n ≤ 5) :
    Calls Tryz.prog 113 #[.int .i64 n] w fun e w' => e = .returned (.int .i64 (most n)) ∧ Drawn0 w w' := by
  have ht := half hn
  obtain ⟨h1, h2, h3, h4⟩ := half_wrap hn hn2
  go_enter Tryz.func113, Tryz.ntmps113
  go_wp2
  (try go_quiet (fail))
  (try go_wp2)
  go_ret
  exact ⟨by first | rfl | (simp only [ht, h1, h2, h3, h4]; done) | (simp [ht, h1, h2, h3, h4]; done) | (unfold most; rfl), by repeat (first | exact Drawn0.refl _ | apply Drawn0.step)⟩
end Go.Proofs.YtggbjokhniigkaaGreat.Mo
namespace Go.Proofs.YtggbjokhniigkaaGreat.Tq
open Ty Tk
def cnt (l : List Int) (i : Int) : Nat := (l.filter (fun x => decide (i ≤ x))).length
theorem cnt_iff {s : List Int} (hs : s.Pairwise (fun a b => a ≤ b)) {k : Nat} (hk : k < s.length) (i : Int) : s.length - k ≤ cnt s i ↔ i ≤ s[k] := by
  have hp := List.pairwise_iff_getElem.1 hs
  constructor
  · intro h
    rcases Int.lt_or_le s[k] i with h1 | h1
    · exfalso
      have e : cnt s i = cnt (s.drop (k + 1)) i := by
        unfold cnt
        conv => lhs; rw [← List.take_append_drop (k + 1) s]
        rw [List.filter_append]
        have e2 : (s.take (k + 1)).filter (fun x => decide (i ≤ x)) = [] := by
          rw [List.filter_eq_nil_iff]
          intro x hx
          obtain ⟨j, hj, rfl⟩ := List.mem_iff_getElem.1 hx
          rw [List.length_take] at hj
          rw [List.getElem_take]
          have h2 : s[j]'(by omega) ≤ s[k] := by
            rcases Nat.lt_or_ge j k with h3 | h3
            · exact hp j k (by omega) hk h3
            · obtain rfl : j = k := by omega
              exact Int.le_refl _
          simp only [decide_eq_true_eq]
          omega
        rw [e2, List.nil_append]
      have h2 : cnt (s.drop (k + 1)) i ≤ (s.drop (k + 1)).length := List.length_filter_le _ _
      rw [List.length_drop] at h2
      omega
    · exact h1
  · intro h
    have e : (s.drop k).filter (fun x => decide (i ≤ x)) = s.drop k := by
      rw [List.filter_eq_self]
      intro x hx
      obtain ⟨j, hj, rfl⟩ := List.mem_iff_getElem.1 hx
      rw [List.length_drop] at hj
      rw [List.getElem_drop]
      have h2 : s[k] ≤ s[k + j]'(by omega) := by
        rcases Nat.eq_zero_or_pos j with h3 | h3
        · subst h3
          exact Int.le_refl _
        · exact hp k (k + j) hk (by omega) (by omega)
      simp only [decide_eq_true_eq]
      omega
    unfold cnt
    conv => rhs; rw [← List.take_append_drop k s]
    rw [List.filter_append, e, List.length_append, List.length_drop]
    omega
theorem cnt_perm {s l : List Int} (h : s.Perm l) (i : Int) : cnt s i = cnt l i := (h.filter _).length_eq
theorem size_most {n : Int} (h : size n = true) : 0 ≤ n - most n ∧ n - most n < n ∧ n - (n - most n) = most n ∧ 1 ≤ most n := by
  unfold size at h
  unfold most
  simp at h
  omega
/-- Of a sorted one. -/
theorem sorted_iff {s l : List Int} (hp : s.Perm l) (hs : s.Pairwise (fun a b => a ≤ b)) {n : Int} (hn : (l.length : Int) = n) (hz : size n = true) (i : Int) : most n ≤ (cnt l i : Int) ↔ i ≤ s.getD (n - most n).toNat 0 := by
  have h1 := size_most hz
  have hl : s.length = l.length := hp.length_eq
  have hk : (n - most n).toNat < s.length := by omega
  rw [← cnt_perm hp, List.getD_eq_getElem?_getD, List.getElem?_eq_getElem hk, Option.getD_some, ← cnt_iff hs hk]
  omega
theorem merge_sorted (l : List Int) : (l.mergeSort (fun a b => decide (a ≤ b))).Pairwise (fun a b => a ≤ b) := by
  have h := List.pairwise_mergeSort (le := fun (a b : Int) => decide (a ≤ b)) (fun a b c h1 h2 => by simp only [decide_eq_true_eq] at *; omega) (fun a b => by simp only [Bool.or_eq_true, decide_eq_true_eq]; omega) l
  exact h.imp (fun h => by simpa using h)
theorem quorum_iff {l : List Int} {n : Int} (hn : (l.length : Int) = n) (hz : size n = true) (i : Int) : most n ≤ (cnt l i : Int) ↔ i ≤ quorum l n :=
  sorted_iff (List.mergeSort_perm l _) (merge_sorted l) hn hz i
theorem quorum_mem {l : List Int} {n : Int} (hn : (l.length : Int) = n) (hz : size n = true) : quorum l n ∈ l := by
  have h1 := size_most hz
  have hl : (l.mergeSort (fun a b => decide (a ≤ b))).length = l.length := List.length_mergeSort l
  have hk : (n - most n).toNat < (l.mergeSort (fun a b => decide (a ≤ b))).length := by omega
  unfold quorum
  rw [List.getD_eq_getElem?_getD, List.getElem?_eq_getElem hk, Option.getD_some]
  exact (List.mergeSort_perm l _).mem_iff.1 (List.getElem_mem hk)
/-! ### rising numbers -/
theorem ids_pair : ∀ (l : List Int) (n last : Int), idsFrom n last l = true → l.Pairwise (fun a b => a < b) ∧ ∀ x ∈ l, last < x ∧ x < n
  | [], _, _, _ => ⟨List.Pairwise.nil, fun _ h => by cases h⟩
  | y :: l, n, last, h => by
    simp only [idsFrom, Bool.and_eq_true, decide_eq_true_eq] at h
    obtain ⟨h1, h2⟩ := ids_pair l n y h.2
    refine ⟨List.Pairwise.cons (fun x hx => (h2 x hx).1) h1, fun x hx => ?_⟩
    rcases List.mem_cons.1 hx with rfl | hx
    · exact h.1
    · have := h2 x hx
      omega
theorem place_le (l : List Int) (k : Int) : place l k ≤ l.length := by
  unfold place
  exact (List.takeWhile_sublist _).length_le
theorem place_lt : ∀ (l : List Int) (k : Int) (t : Nat) (h : t < l.length), t < place l k → l[t] < k
  | [], _, _, h, _ => by simp at h
  | x :: l, k, t, h, ht => by
    unfold place at ht
    rw [List.takeWhile_cons] at ht
    by_cases hx : x < k
    · rw [if_pos (by simpa using hx), List.length_cons] at ht
      cases t with
      | zero => simpa using hx
      | succ t => simpa using place_lt l k t (by simpa using h) (by unfold place; omega)
    · rw [if_neg (by simpa using hx)] at ht
      simp at ht
theorem place_ge : ∀ (l : List Int) (k : Int) (h : place l k < l.length), k ≤ l[place l k]
  | [], _, h => by simp at h
  | x :: l, k, h => by
    by_cases hx : x < k
    · have e : place (x :: l) k = place l k + 1 := by
        unfold place
        rw [List.takeWhile_cons, if_pos (by simpa using hx), List.length_cons]
      simp only [e, List.getElem_cons_succ]
      exact place_ge l k (by rw [e] at h; simpa using h)
    · have e : place (x :: l) k = 0 := by
        unfold place
        rw [List.takeWhile_cons, if_neg (by simpa using hx)]
        rfl
      simp only [e, List.getElem_cons_zero]
      omega
theorem insertId_len (l : List Int) (k : Int) : (insertId l k).length = l.length + 1 := by
  unfold insertId
  rw [List.length_append, List.length_cons, List.length_take, List.length_drop]
  have := place_le l k
  omega
end Go.Proofs.YtggbjokhniigkaaGreat.Tq
