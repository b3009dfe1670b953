/- Texts laid together: Ra, Rb. No condition. -/
import Derived.Test.YtggbjokhniigkaaGreatGa
import Derived.Test.YtggbjokhniigkaaGreatGd
/- A resource that tells, too, how a row within it reads; and the append of one element that holds such a row. -/
namespace Go.Proofs.YtggbjokhniigkaaGreat.Ra
open Go.RowKit Go.Proofs.YtggbjokhniigkaaGreatW.PrintWords Go.Proofs.YtggbjokhniigkaaGreatW.PrintLast Go.Proofs.YtggbjokhniigkaaGreatW.PrintMore Go.Proofs.YtggbjokhniigkaaGreat.Mx
set_option linter.unusedVariables false
theorem lt_kept {w w' : World} {k : Nat} (h : w'.heap[k]? = w.heap[k]?) (hk : k < w.heap.size) : k < w'.heap.size := by
  rcases Nat.lt_or_ge k w'.heap.size with g | g
  · exact g
  · rw [Array.getElem?_eq_none g, Array.getElem?_eq_getElem hk] at h
    cases h
def andF {β : Type} (r : Res) (d : Kd β) (A : Option Addr) (n : Nat) (ys : List β) : Res where
  holds w fp := r.holds w fp ∧ Kd.F d w fp A n ys
  move hm h := ⟨r.move hm h.1, fun W' hW => h.2 W' (fun k hk hl => (hW k hk (lt_kept (hm k hk) hl)).trans (hm k hk))⟩
  mono hm h := ⟨r.mono hm h.1, fun W' hW => h.2 W' (fun k hk hl => hW k (hm k hk) hl)⟩
theorem F_row {β : Type} {d : Kd β} {e : Nat} {A : Option Addr} {n c : Nat} {ys : List β} {w : World} {f : Nat → Prop} (h : (row d e (.slice A n c) ys).holds w f) : Kd.F d w f A ys.length ys :=
  fun W' hW => (Kd.R_reads' (Kd.R_move (Kd.R_bound h) (fun k hk => hW k hk.1 hk.2.2.1))).2.2
theorem Mem.andF_C {w0 w : World} {rs : List Res} {β : Type} {r : Res} {d : Kd β} {A : Option Addr} {n : Nat} {ys : List β} (h : Mem w0 w rs) (i : Nat) (hi : rs[i]? = some (andF r d A n ys)) : d.C w A n ys :=
  (h.hold hi).2 w (fun _ _ _ => rfl)
section
variable {P : Program} {ops : Array Oper} {rest : List Oper} {o : Oper} {a : Act} {Q : Exit → Act → World → Prop} {Kc : Act → World → Prop} {α β : Type}
theorem app1F (d : Kd α) (dd : Kd β) {w0 W : World} {rs : List Res} (hM : Mem w0 W rs) (i j b : Nat) (v : Value) (xs : List α) (p : α) (cs : List Value) (A : Option Addr) (n : Nat) (ys : List β) (g c : Nat) (hij : i ≠ j) (hgd : o.guard = none) (s x : Operand) (t e : TypeId) (z : Value) (bytes : Nat)
    (ho : o.op = .call { callee := .builtin .append, args := #[s, x], argTypes := #[t, t] })
    (ht : P.underlying t = some (.slice e)) (hinfo : (P.info? e).map (fun i => (i.zero, i.size, i.bytes)) = some (some z, d.sz, bytes)) (hz : z.cells.size = d.sz) (hs0 : 0 < d.sz) (hb0 : 0 < bytes)
    (hs : a.eval s = v) (hx : a.eval x = .slice (some ⟨g, 0, none⟩) 1 c)
    (hi : rs[i]? = some (Mx.row d e v xs)) (hj : rs[j]? = some (andF (Mx.el d p cs) dd A n ys)) (hb : rs[b]? = some (Mx.blk g e cs.toArray)) (hl : (xs.length + 1) * bytes ≤ 140737488355328)
    (h : ∀ v1 w1, Mem w0 w1 ((rs.set i (andF (Mx.row d e v1 (xs ++ [p])) dd A n ys)).set j emp) → wpList P ops Q rest (a.put o.dst v1) w1) : wpList P ops Q (o :: rest) a W := by
  have hblk := hM.blk_at b hb
  obtain ⟨f, q, h1, ⟨hq, hF⟩, h2, h2q, hd, h3⟩ := hM.take2 hi hj hij
  have hK := d.K_of_M hq
  refine Kd.R_append_rows d (w0 := W) 0 hgd s x t e z bytes ho ht hinfo hz hs0 hb0 v xs [p] (some ⟨g, 0, none⟩) 1 c (fun k => f k ∨ q k ∨ W.heap.size ≤ k) q hs hx (Kd.R_mono h1 (fun _ hk => .inl hk)) (reads_one p hblk (d.K_len hK)) (fun x' cs' hx' => by obtain ⟨rfl, rfl⟩ := hx'; exact hq) (fun k hk => ⟨.inr (.inl hk), fun he => hd k (h1.1 k he.symm) hk⟩) (fun _ hk => .inr (.inr hk)) (Below.refl _ _) (Nat.zero_le _) hl ?_
  intro v1 w1 hr hb1 hg _
  refine h v1 w1 (h3 w1 _ hg.os hg.tape hg.output hg.size (fun k hk hf _ => hg.block k hk (fun he => hf (h1.1 k he.symm))) ⟨?_, ?_⟩)
  · exact Kd.R_mono (Kd.R_bound hr) (fun k hk => hk.1.imp id (fun hh => hh.imp id (fun hh => ⟨hh, hk.2.2.1⟩)))
  · intro W' hW
    have hk1 := fun k hk => hg.block k (h2q k hk).2 (fun he => hd k (h1.1 k he.symm) hk)
    exact hF W' (fun k hk hlt => (hW k (.inr (.inl hk)) (lt_kept (hk1 k hk) hlt)).trans (hk1 k hk))
end
end Go.Proofs.YtggbjokhniigkaaGreat.Ra
/- The reference's message to all others. -/
namespace Go.Proofs.YtggbjokhniigkaaGreat.Rb
open Go.Proofs.YtggbjokhniigkaaGreat.Ty Go.RowKit Go.Proofs.YtggbjokhniigkaaGreatW.PrintWords Go.Proofs.YtggbjokhniigkaaGreatW.PrintLast Go.Proofs.YtggbjokhniigkaaGreatW.PrintMore Go.Proofs.YtggbjokhniigkaaGreat.Mx Go.Proofs.YtggbjokhniigkaaGreat.Kx Go.Proofs.YtggbjokhniigkaaGreat.Wa Go.Proofs.YtggbjokhniigkaaGreat.We Go.Proofs.YtggbjokhniigkaaGreat.Ra
set_option linter.unusedVariables false
set_option linter.unusedSimpArgs false
set_option maxRecDepth 100000 in
set_option maxHeartbeats 4000000 in
theorem all11_calls (w0 w : World) (Rm : Res) (F : List Res) (g : Nat) (i n vw nr hw : Int) (vl : Value) (cm : Int) (va vv vo vb : Value) (bv bd : Int) (m0 m1 m2 m3 m4 m5 m6 : Int) (A : Option Addr) (c : Nat) (l : List Entry)
    (hM : Mem w0 w (Rm :: blk g 25 #[.int .i64 i, .int .i64 n, .int .i64 vw, .int .i64 nr, .int .i64 hw, vl, .int .i64 cm, va, vv, vo, vb, .int .i64 bv, .int .i64 bd] :: F)) (hl : Rd w0 Rm kE A l) (hn : l.length ≤ 1000000000) (hc : l.length ≤ c) (hn0 : 0 < n) (hn5 : n ≤ 5) :
    Calls Tryz.prog 118 #[.pointer (some ⟨g, 0, none⟩), .agg #[.int .i64 m0, .int .i64 m1, .int .i64 m2, .int .i64 m3, .int .i64 m4, .int .i64 m5, .int .i64 m6, .slice A l.length c]] w fun e w' =>
      ∃ vout : Value, e = .returned vout ∧ Mem w0 w' (row kM 27 vout (allFrom i n vw ⟨m0, m1, m2, m3, m4, m5, m6, l⟩ n.toNat 0) :: Rm :: blk g 25 #[.int .i64 i, .int .i64 n, .int .i64 vw, .int .i64 nr, .int .i64 hw, vl, .int .i64 cm, va, vv, vo, vb, .int .i64 bv, .int .i64 bd] :: F) := by
  have HN := Aside0.mk hn
  have HC := Aside0.mk hc
  have HL := Aside0.mk (show ∀ (w : World) (rs : List Res), Mem w0 w rs → rs[0]? = some (row kM 27 (.slice none 0 0) []) → rs[2]? = some Rm → kE.C w A l.length l from fun w rs h1 _ h3 => hl w rs 2 h1 h3)
  have M0 := Aside0.mk (hM.allocAt #[.int .i64 m0, .int .i64 m1, .int .i64 m2, .int .i64 m3, .int .i64 m4, .int .i64 m5, .int .i64 m6, .slice A l.length c] 27 _ rfl)
  have M1 := Aside0.mk (M0.out.cons (r := row kM 27 (.slice none 0 0) []) (Below.refl _ _) (Kd.R_nil _ _ _ _ _))
  have hg : g < w.heap.size := blk_lt (hM.blk_at 1 rfl)
  clear hM hl hn hc
  go_enter Tryz.func118, Tryz.ntmps118
  go_wp2_with fail
  go_loopg [5, 6] (n.toNat + 1) (fun kq v5 v6 w' => ∃ (k : Nat) (X : Res) (out : List Msg) (x1 x2 x3 : Int) (A' : Option Addr) (c' : Nat), v6 = .int .i64 k ∧ Aside0 ((k : Int) ≤ n ∧ kq = n.toNat + 1 - k ∧ out.length ≤ k ∧ out ++ allFrom i n vw ⟨m0, m1, m2, m3, m4, m5, m6, l⟩ (n.toNat - k) k = allFrom i n vw ⟨m0, m1, m2, m3, m4, m5, m6, l⟩ n.toNat 0) ∧ Aside0 (l.length ≤ c') ∧ Aside0 (∀ w f, X.holds w f → (row kM 27 v5 out).holds w f) ∧ Aside0 (∀ (w : World) (rs : List Res), Mem w0 w rs → rs[0]? = some X → rs[2]? = some Rm → kE.C w A' l.length l) ∧ Aside0 (Mem w0 w' (X :: blk w.heap.size 27 #[.int .i64 m0, .int .i64 x1, .int .i64 x2, .int .i64 x3, .int .i64 m4, .int .i64 m5, .int .i64 m6, .slice A' l.length c'] :: Rm :: blk g 25 #[.int .i64 i, .int .i64 n, .int .i64 vw, .int .i64 nr, .int .i64 hw, vl, .int .i64 cm, va, vv, vo, vb, .int .i64 bv, .int .i64 bd] :: F)))
  case atStart => exact ⟨0, _, [], m1, m2, m3, A, c, rfl, ⟨by omega, by omega, by simp, by simp⟩, HC, ⟨fun _ _ h => h⟩, HL, M1⟩
  case round =>
    obtain ⟨k, X, out, x1, x2, x3, A', c', rfl, HK, HC', HX, HL', M2⟩ := hrel
    clear M0 M1
    have cG := blk_cell (M2.out.blk_at 3 rfl)
    have cB := blk_cell (M2.out.blk_at 1 rfl)
    have fB := blk_frozen (M2.out.blk_at 1 rfl)
    have hgr := blk_lt (M2.out.blk_at 3 rfl)
    have hbr := blk_lt (M2.out.blk_at 1 rfl)
    have ngb : ¬ g = w.heap.size := by omega
    have nbg : ¬ w.heap.size = g := by omega
    by_cases hlt : (k : Int) < n
    · have HS := Aside0.mk (allFrom_step i n vw ⟨m0, m1, m2, m3, m4, m5, m6, l⟩ k hlt)
      by_cases hid : (k : Int) = i
      · have HI := Aside0.mk hid
        have e1 : ((k : Int) == i) = true := by simpa using hid
        have e2 : ((k : Int) != i) = false := by simpa using hid
        clear hid
        go_wp2_with fail
        go_roundg (n.toNat - k)
        case measure => have := HK.out; omega
        case rel =>
          refine ⟨k + 1, X, out, x1, x2, x3, A', c', by go_num, ⟨by omega, by omega, by have := HK.out; omega, ?_⟩, HC', HX, HL', M2⟩
          have h1 := HK.out.2.2.2
          rw [HS.out, if_pos HI.out] at h1
          exact h1
      · have HI := Aside0.mk hid
        have e1 : ((k : Int) == i) = false := by simpa using hid
        have e2 : ((k : Int) != i) = true := by simpa using hid
        clear hid
        go_upto_region 9 with (fail)
        have M3 := Aside0.mk (((M2.out.set 1 rfl 1 (.int .i64 i)).set 1 rfl 2 (.int .i64 k)).set 1 rfl 3 (.int .i64 vw))
        have hCC := HL'.out _ _ M3.out rfl rfl
        have HCC := Aside0.mk hCC
        clear hCC
        go_cut [] (fun wx => ∃ (A2 : Option Addr) (c2 : Nat), Aside0 (l.length ≤ c2) ∧ Aside0 (Mem w0 wx (row kE 68 (.slice A2 l.length c2) l :: X :: blk w.heap.size 27 #[.int .i64 m0, .int .i64 i, .int .i64 k, .int .i64 vw, .int .i64 m4, .int .i64 m5, .int .i64 m6, .slice A2 l.length c2] :: Rm :: blk g 25 #[.int .i64 i, .int .i64 n, .int .i64 vw, .int .i64 nr, .int .i64 hw, vl, .int .i64 cm, va, vv, vo, vb, .int .i64 bv, .int .i64 bd] :: F)))
        case first =>
          go_wp2_with (((with_reducible refine gate_builtin (b := .append) (xs := #[.tmp 33, .tmp 35]) rfl ?_); at_builtin; refine Mem.app kE ((M3.out.allocAt #[] 68 wr.heap.size (by simp)).lit 0 kE [] rfl (Reps.none _ _) (by decide)) 0 _ [] l rfl (.tmp 33) (.tmp 35) 22 68 _ _ rfl Tryz.underlying22 infoEntry rfl (by decide) (by omega) A' _ c' rfl rfl rfl (Kd.C_alloc HCC.out _) (fun x cs h => h) (by have := HN.out; simp; omega) ?_; intro v1 w1 hM1; have M4 := Aside0.mk (show Mem _ _ (row kE _ v1 l :: _) from hM1); clear hM1; obtain ⟨A2, c2, he, hc2, _⟩ := M4.out.row_at 0 rfl; subst he; have cB4 := blk_cell (M4.out.blk_at 2 rfl); have fB4 := blk_frozen (M4.out.blk_at 2 rfl)))
          go_meet
          case rel => exact ⟨A2, c2, ⟨hc2⟩, ⟨M4.out.set 2 rfl 7 (.slice A2 l.length c2)⟩⟩
        case rest =>
          obtain ⟨A2, c2, HC2, M5⟩ := hcut
          clear M2 M3 HCC cB fB cG hgr hbr
          have cB := blk_cell (M5.out.blk_at 2 rfl)
          have hbr := blk_lt (M5.out.blk_at 2 rfl)
          have M6 := Aside0.mk (((M5.out.imp (i := 1) rfl _ (fun f hf => HX.out _ f hf)).imp (i := 0) rfl (andF (el kM ⟨m0, i, k, vw, m4, m5, m6, l⟩ [.int .i64 m0, .int .i64 i, .int .i64 k, .int .i64 vw, .int .i64 m4, .int .i64 m5, .int .i64 m6, .slice A2 l.length c2]) kE A2 l.length l) (fun f hf => ⟨kM_mkM _ _ _ ⟨m0, i, k, vw, m4, m5, m6, l⟩ hf, F_row hf⟩)).alloc #[.int .i64 m0, .int .i64 i, .int .i64 k, .int .i64 vw, .int .i64 m4, .int .i64 m5, .int .i64 m6, .slice A2 l.length c2] 27)
          go_wp2_with (((with_reducible refine gate_builtin (b := .append) (xs := #[.tmp 38, .tmp 40]) rfl ?_); at_builtin; refine app1F kM kE M6.out 2 1 0 _ out _ _ A2 l.length l _ 1 (by decide) rfl (.tmp 38) (.tmp 40) 60 27 _ _ rfl Tryz.underlying60 infoMsg rfl (by decide) (by omega) rfl rfl rfl rfl rfl (by have := HK.out; omega) ?_; intro v1 w1 hM1; have M7 := Aside0.mk hM1; clear hM1))
          go_roundg (n.toNat - k)
          case measure => have := HK.out; omega
          case rel =>
            have M8 := Aside0.mk (Mem.sel (ps := [_, _, _, _, _, _]) (F := F) [2, 3, 4, 5] 6 M7.out rfl rfl)
            refine ⟨k + 1, andF (row kM 27 v1 (out ++ [(⟨m0, i, (k : Int), vw, m4, m5, m6, l⟩ : Msg)])) kE A2 l.length l, out ++ [(⟨m0, i, (k : Int), vw, m4, m5, m6, l⟩ : Msg)], i, k, vw, A2, c2, by go_num, ⟨by omega, by omega, ?_, ?_⟩, HC2, ⟨fun w f h => h.1⟩, ⟨fun w rs hM h0 _ => Mem.andF_C hM 0 h0⟩, M8⟩
            · have := HK.out
              rw [List.length_append, List.length_singleton]
              omega
            · have h1 := HK.out.2.2.2
              rw [HS.out, if_neg HI.out] at h1
              rw [List.append_assoc]
              exact h1
    · have hk : (k : Int) = n := by have := HK.out.1; omega
      have HE := Aside0.mk hk
      clear hk
      go_wp2_with fail
      go_ret
      refine ⟨_, rfl, ?_⟩
      have h1 := HK.out.2.2.2
      have h2 : n.toNat - k = 0 := by have := HE.out; omega
      rw [h2] at h1
      simp only [allFrom, List.append_nil] at h1
      rw [← h1]
      exact Mem.sel (ps := [_, _, _, _]) (F := F) [0, 2, 3] 4 (M2.out.imp (i := 0) rfl _ (fun f hf => HX.out _ f hf)) rfl rfl
end Go.Proofs.YtggbjokhniigkaaGreat.Rb
