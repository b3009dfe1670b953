/- What is held while a log is read, told in short. No condition. -/
import Derived.Test.YtggbjokhniigkaaGreatSaq
import Derived.Test.YtggbjokhniigkaaGreatGp8
import Derived.Test.YtggbjokhniigkaaGreatGi
import Derived.Test.YtggbjokhniigkaaGreatGh
import Derived.Test.YtggbjokhniigkaaGreatGd
import Derived.Test.YtggbjokhniigkaaGreatWjq
import Derived.Deep.RegionHeld3
namespace Go.Proofs.YtggbjokhniigkaaGreat.Lx
open Go.Proofs.YtggbjokhniigkaaGreat.Ty Go.RowKit Go.Proofs.YtggbjokhniigkaaGreatW.PrintWords Go.Proofs.YtggbjokhniigkaaGreatW.PrintLast Go.Proofs.YtggbjokhniigkaaGreatW.PrintMore Go.Proofs.YtggbjokhniigkaaGreat.Mx Go.Proofs.YtggbjokhniigkaaGreat.Kx Go.Proofs.YtggbjokhniigkaaGreat.Wa Go.Proofs.YtggbjokhniigkaaGreat.Tk Go.Proofs.YtggbjokhniigkaaGreat.We Go.Proofs.YtggbjokhniigkaaGreat.Sa Go.Proofs.YtggbjokhniigkaaGreat.Tl Go.Proofs.YtggbjokhniigkaaGreat.Wj Go.Proofs.YtggbjokhniigkaaGreat.Wd
set_option linter.unusedVariables false
set_option linter.unusedSimpArgs false
abbrev wS (g : Nat) (r : Rep) (v5 : Value) (l5 : List Entry) (cm : Int) (v7 v8 v9 v10 vo : Value) (out : List Msg) (F : List Res) : List Res :=
  blk g 95 (Wa.wc r.f0 r.f1 r.f2 r.f3 r.f4 v5 cm v7 v8 v9 v10 r.f11 r.f12 vo) :: row kM 27 vo out :: row kE 68 v5 l5 :: row (Kd.int .i64) 3 v7 r.f7 :: row (Kd.int .i64) 3 v8 r.f8 :: row (Kd.int .i64) 3 v9 r.f9 :: row kE 68 v10 r.f10 :: F
abbrev qS (g : Nat) (r : Rep) (v5 : Value) (l5 : List Entry) (cm : Int) (v7 v8 v9 v10 : Value) (F : List Res) : List Res :=
  blk g 25 (qc r.f0 r.f1 r.f2 r.f3 r.f4 v5 cm v7 v8 v9 v10 r.f11 r.f12) :: row kE 68 v5 l5 :: row (Kd.int .i64) 3 v7 r.f7 :: row (Kd.int .i64) 3 v8 r.f8 :: row (Kd.int .i64) 3 v9 r.f9 :: row kE 68 v10 r.f10 :: F
abbrev mS (w : World) (x : Int) (m : Msg) (A : Option Addr) (c : Nat) (L : List Res) : List Res :=
  blk w.heap.size 27 #[.int .i64 m.f0, .int .i64 m.f1, .int .i64 m.f2, .int .i64 m.f3, .int .i64 x, .int .i64 m.f5, .int .i64 m.f6, .slice A m.f7.length c] :: L
set_option maxRecDepth 100000 in
set_option maxHeartbeats 8000000 in
theorem commit_calls (w0 w : World) (F : List Res) (g : Nat) (i n vw nr hw : Int) (A5 : Option Addr) (n5 c5 : Nat) (cm : Int) (va vv vo vb : Value) (bv bd : Int) (vout : Value) (k : Int)
    (hM : Mem w0 w (blk g 95 (Wa.wc i n vw nr hw (.slice A5 n5 c5) cm va vv vo vb bv bd vout) :: F)) (x : Int) (hx : max cm (min k (n5 : Int)) = x) :
    Calls Tryz.prog 128 #[.pointer (some ⟨g, 0, none⟩), .int .i64 k] w fun e w' => e = .returned (.tuple #[]) ∧ Mem w0 w' (blk g 95 (Wa.wc i n vw nr hw (.slice A5 n5 c5) x va vv vo vb bv bd vout) :: F) := by
  have HX := Aside0.mk hx
  have M1 := Aside0.mk hM
  have cG := blk_cell (hM.blk_at 0 rfl)
  have fG := blk_frozen (hM.blk_at 0 rfl)
  have hg := blk_lt (hM.blk_at 0 rfl)
  unfold Wa.wc at cG
  clear hM hx
  go_enter Tryz.func128, Tryz.ntmps128
  go_region
  all_goals
    go_wp2_with fail
    all_goals
      first | go_end0 | (refine bodyPost_ret (results_none rfl _ _ _) rfl ?_)
      have hx := HX.out
      clear cG fG hg
      first
        | (have e : x = (n5 : Int) := by omega
           subst e
           exact ⟨rfl, (M1.out.set 0 rfl 6 (.int .i64 (n5 : Int))).drew⟩)
        | (have e : x = cm := by omega
           subst e
           exact ⟨rfl, (M1.out.set 0 rfl 6 (.int .i64 x)).drew⟩)
        | (have e : x = k := by omega
           subst e
           exact ⟨rfl, (M1.out.set 0 rfl 6 (.int .i64 x)).drew⟩)
def LogDoes (w0 w : World) (F : List Res) (g : Nat) (m : Msg) (A : Option Addr) (c : Nat) (s : Rep) (out : List Msg) : Prop :=
  Calls Tryz.prog 109 #[.pointer (some ⟨g, 0, none⟩), .agg #[.int .i64 m.f0, .int .i64 m.f1, .int .i64 m.f2, .int .i64 m.f3, .int .i64 m.f4, .int .i64 m.f5, .int .i64 m.f6, .slice A m.f7.length c]] w fun e w' => e = .returned (.tuple #[]) ∧ ∃ v5' v7' v8' v9' v10' vout' : Value, Mem w0 w' (wS g s v5' s.f5 s.f6 v7' v8' v9' v10' vout' out F)
def LackDoes (w0 w : World) (F : List Res) (g : Nat) (m : Msg) (A : Option Addr) (c : Nat) (s : Rep) (out : List Msg) : Prop :=
  Calls Tryz.prog 73 #[.pointer (some ⟨g, 0, none⟩), .agg #[.int .i64 m.f0, .int .i64 m.f1, .int .i64 m.f2, .int .i64 m.f3, .int .i64 m.f4, .int .i64 m.f5, .int .i64 m.f6, .slice A m.f7.length c]] w fun e w' => ∃ vout v5' v7' v8' v9' v10' : Value, e = .returned vout ∧ Mem w0 w' (qS g s v5' s.f5 s.f6 v7' v8' v9' v10' (row kM 27 vout out :: F))
structure IdleIn (r : Rep) (m : Msg) : Prop where
  hx : 0 ≤ m.f4
  hx1 : m.f4 ≤ 4611686018427387904
  hlm : m.f7.length ≤ 1200
  hw0 : 0 ≤ r.f2
  hw1 : r.f2 ≤ 4611686018427387904
  hn0 : 0 < r.f1
  hn5 : r.f1 ≤ 5
structure LogIn (w0 : World) (r : Rep) (m : Msg) (A : Option Addr) (c k : Nat) : Prop where
  hl : Kd.C kE w0 A m.f7.length m.f7
  hlc : m.f7.length ≤ c
  hn : r.f5.length ≤ 1200
  hk : m.f4 = (k : Int)
  hkn : k ≤ r.f5.length
  hlm : m.f7.length ≤ 1200
  hcl : r.f6 ≤ (r.f5.length : Int)
  hw0 : 0 ≤ r.f2
  hw1 : r.f2 ≤ 4611686018427387904
  hi0 : 0 ≤ r.f0
  hi1 : r.f0 < r.f1
  hn5 : r.f1 ≤ 5
end Go.Proofs.YtggbjokhniigkaaGreat.Lx
