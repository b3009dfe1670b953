/- PageLists' walk. -/
import Derived.Test.YtookpmdgoednfaaLp
import Derived.Test.YtookpmdgoednfaaSb
import Derived.Test.YtookpmdgoednfaaLr
namespace Go.Proofs.Ytookpmdgoednfaa.Lw
open Go.RowKit Go.Proofs.YtookpmdgoednfaaW.PrintWords Go.Proofs.YtookpmdgoednfaaW.PrintLast Go.Proofs.YtookpmdgoednfaaW.PrintMore Go.Proofs.Ytookpmdgoednfaa.Mx Go.Proofs.Ytookpmdgoednfaa.PPagePuts Go.Proofs.Ytookpmdgoednfaa.Pa Go.Proofs.Ytookpmdgoednfaa.Pn Go.Proofs.Ytookpmdgoednfaa.Lp
open Go.Proofs.Ytookpmdgoednfaa.Px (lt Bef Rt)
set_option linter.unusedVariables false
set_option linter.unusedSimpArgs false
structure SA where
  f0 : ByteArray
  f1 : ByteArray
  f2 : Bool
def zA : SA := ⟨⟨#[]⟩, ⟨#[]⟩, false⟩
def kA : Kd SA := Kd.iso (Kd.pair Kd.string (Kd.pair Kd.string Kd.bool)) (fun x : SA => (x.f0, x.f1, x.f2))
theorem kA_open {w : World} {x : SA} {cs : List Value} (h : kA.K w x cs) : cs = [.string x.f0, .string x.f1, .bool x.f2] := by
  obtain ⟨_, _, rfl, rfl, _, _, rfl, rfl, rfl⟩ := h
  exact rfl
theorem kA_mk (w : World) (x : SA) : kA.K w x [.string x.f0, .string x.f1, .bool x.f2] := ⟨[.string x.f0], [.string x.f1, .bool x.f2], rfl, rfl, ⟨[.string x.f1], [.bool x.f2], rfl, rfl, rfl⟩⟩
def rd_A (xs : List SA) (i : Int) : SA := xs.getD i.toNat zA
theorem at_A {w : World} {A : Option Addr} {n : Nat} {xs : List SA} (h : Kd.C kA w A n xs) (i : Int) (h0 : 0 ≤ i) (h1 : i < n) : ∃ ad, A = some ad ∧ w.cell? (ad.add (i.toNat * 3)) = some (.string (rd_A xs i).f0) ∧ w.cell? ⟨(ad.add (i.toNat * 3)).block, (ad.add (i.toNat * 3)).off + 1, none⟩ = some (.string (rd_A xs i).f1) ∧ w.cell? ⟨(ad.add (i.toNat * 3)).block, (ad.add (i.toNat * 3)).off + 2, none⟩ = some (.bool (rd_A xs i).f2) := by
  obtain ⟨ad, c, e, _, hK, hc0⟩ := Kd.C_get h zA i h0 h1
  have hc : ∀ j u, c[j]? = some u → w.cell? (ad.add (i.toNat * 3 + j)) = some u := hc0
  obtain rfl := kA_open hK
  exact ⟨ad, e, hc 0 _ rfl, by rw [← add_field _ _ 1 (by omega)]; exact hc 1 _ rfl, by rw [← add_field _ _ 2 (by omega)]; exact hc 2 _ rfl⟩
theorem within_all (x : SP) : Gq.within ⟨#[]⟩ ⟨#[]⟩ x = true := by
  have e : (⟨#[]⟩ : ByteArray).toList = [] := by rw [Lib.toList_data]
  unfold Gq.within
  rw [e]
  cases Py.kof x <;> rfl
theorem scan_all (ps : List (List SP)) (hn : ps.length ≤ 400) (hr : Py.right ps = true) (A : Option Addr) (c : Nat) (w : World) (hl : Kd.C (Kd.slice 41 kP) w A ps.length ps) (hc : ps.length ≤ c) :
    Calls Try.prog 30 #[.slice A ps.length c, .string ⟨#[]⟩, .string ⟨#[]⟩, .int .i64 ((ps.flatten.length : Int) + 1)] w fun e w' => ∃ v : Value, e = .returned v ∧ Mem w w' [row kP 41 v ps.flatten] := by
  obtain ⟨k0, hk0⟩ := (Py.page_right ps (by omega)).rounds
  rw [hr] at hk0
  by_cases hne : ps.length = 0
  · obtain rfl := List.eq_nil_of_length_eq_zero hne
    exact Sn.Scan_none A c _ _ _ w hl k0 hk0
  · have rt := Px.rt_of hr
    obtain ⟨k, hk, h1, h2⟩ := Px.page_cut rt (⟨#[]⟩ : ByteArray).toList
    refine Sn.Scan_in A c ps _ _ _ w hl hc k0 hk0 (by omega) (by omega) rt.len k hk h1 h2 _ ?_
    rw [Gq.both_sel rt _ _ _ k hk h1]
    unfold Gq.rmore
    rw [List.nil_append, List.filter_eq_self.2 (fun x _ => within_all x), List.take_of_length_le (by simp)]
def newp (x : SA) : List SP := if x.f2 = true then [] else [⟨x.f0, x.f1⟩]
def opt (x : SA) : Option ByteArray := if x.f2 = true then none else some x.f1
theorem ins_newp (l : List SP) (x : SA) : ins l x.f0 (opt x) = l.take (place l x.f0.toList) ++ newp x ++ l.drop (after l x.f0.toList) := by
  unfold ins newp opt
  cases x.f2 <;> rfl
theorem makes (ps : List (List SP)) (x : SA) (hn : ps.length ≤ 400) (hr : Py.right ps = true) : ∃ a, (x.f2 = true → Makes 32 ps a #[.string x.f0]) ∧ (x.f2 = false → Makes 25 ps a #[.string x.f0, .string x.f1]) ∧ Py.right a = true ∧ a.flatten = ins ps.flatten x.f0 (opt x) ∧ a.length ≤ ps.length + 1 := by
  cases h : x.f2 with
  | true =>
    obtain ⟨a, h1, h2, h3, h4⟩ := del_makes ps x.f0 hn hr
    exact ⟨a, fun _ => h1, fun h => (by cases h), h2, (by rw [h3]; unfold opt; rw [h]; rfl), by omega⟩
  | false =>
    obtain ⟨a, h1, h2, h3, h4⟩ := put_makes ps x.f0 x.f1 hn hr
    exact ⟨a, fun h => (by cases h), fun _ => h1, h2, (by rw [h3]; unfold opt; rw [h]; rfl), by omega⟩
theorem row_none {α : Type} {d : Kd α} {e n c : Nat} {w : World} {xs : List α} {f : Nat → Prop} (h : (row d e (.slice none n c) xs).holds w f) : c = 0 := by
  obtain ⟨_, inner, hown, _⟩ := h
  rcases hown.2 with ⟨hv, _⟩ | ⟨g', cap', cur, hv, _⟩
  · injection hv
  · cases hv
/-! ### a key's place, step by step -/
theorem place_le (l : List SP) (key : List UInt8) : place l key ≤ l.length := by
  unfold place
  exact (List.takeWhile_sublist _).length_le
theorem place_lo : ∀ (l : List SP) (key : List UInt8) (t : Nat) (h : t < l.length), t < place l key → lt (kof l[t]) key = true
  | [], _, _, h, _ => by simp at h
  | x :: l, key, t, h, ht => by
    unfold place at ht
    rw [List.takeWhile_cons] at ht
    cases hx : lt (kof x) key with
    | true =>
      rw [if_pos hx, List.length_cons] at ht
      cases t with
      | zero => exact hx
      | succ t => exact place_lo l key t (by simpa using h) (by unfold place; omega)
    | false =>
      rw [if_neg (by rw [hx]; simp)] at ht
      simp at ht
theorem place_hi : ∀ (l : List SP) (key : List UInt8) (h : place l key < l.length), lt (kof l[place l key]) key = false
  | [], _, h => by simp at h
  | x :: l, key, h => by
    cases hx : lt (kof x) key with
    | true =>
      have e : place (x :: l) key = place l key + 1 := by
        unfold place
        rw [List.takeWhile_cons, if_pos hx, List.length_cons]
      simp only [e, List.getElem_cons_succ]
      exact place_hi l key (by rw [e] at h; simpa using h)
    | false =>
      have e : place (x :: l) key = 0 := by
        unfold place
        rw [List.takeWhile_cons, if_neg (by rw [hx]; simp)]
        rfl
      simp only [e, List.getElem_cons_zero]
      exact hx
theorem there_in {l : List SP} {key : List UInt8} (h : place l key < l.length) : there l key = (kof l[place l key] == key) := by
  unfold there
  rw [List.drop_eq_getElem_cons h]
  rfl
theorem there_out {l : List SP} {key : List UInt8} (h : ¬ place l key < l.length) : there l key = false := by
  unfold there
  rw [List.drop_eq_nil_of_le (by omega)]
  rfl
theorem after_le (l : List SP) (key : List UInt8) : place l key ≤ after l key ∧ after l key ≤ l.length := by
  have h1 := place_le l key
  unfold after
  split
  · rename_i ht
    refine ⟨by omega, ?_⟩
    rcases Nat.lt_or_ge (place l key) l.length with h | h
    · omega
    · rw [there_out (by omega)] at ht
      cases ht
  · exact ⟨Nat.le_refl _, h1⟩
theorem ins_len (l : List SP) (key : ByteArray) (o : Option ByteArray) : (ins l key o).length ≤ l.length + 1 := by
  have h1 := after_le l key.toList
  unfold ins
  rw [List.length_append, List.length_append, List.length_take, List.length_drop]
  cases o <;> simp <;> omega
set_option maxRecDepth 100000 in
set_option maxHeartbeats 8000000 in
theorem lists_calls (A : Option Addr) (c : Nat) (acts : List SA) (w : World) (hC : Kd.C kA w A acts.length acts) (hc : acts.length ≤ c) :
    Calls Try.prog 7 #[.slice A acts.length c] w fun e w' => e = .returned (.bool true) ∧ Mem w w' [] := by
  have HC := Aside0.mk hC
  have M0 := Aside0.mk (Mem.nil w)
  have HMX := Aside0.mk hC.2.1
  clear hC hc
  go_enter Try.func7, Try.ntmps7
  go_wp2_with fail
  go_loopg [3, 4, 5, 6, 7, 8] 101 (fun kq v3 v4 v5 v6 v7 v8 w' => ∃ (i : Nat) (ps : List (List SP)) (l : List SP) (Ap Al : Option Addr) (cp cl : Nat), v3 = .slice Ap ps.length cp ∧ v4 = .slice Al l.length cl ∧ v5 = .int .i64 i ∧ Aside0 (i ≤ 100 ∧ i ≤ acts.length ∧ kq = 101 - i) ∧ Aside0 (Py.right ps = true ∧ ps.flatten = l ∧ ps.length ≤ i ∧ l.length ≤ i) ∧ Aside0 (Kd.C (Kd.slice 41 kP) w' Ap ps.length ps ∧ ps.length ≤ cp ∧ Kd.C kP w' Al l.length l ∧ l.length ≤ cl ∧ (Al = none → cl = 0)) ∧ Aside0 (Mem w w' []))
  case atStart => exact ⟨0, [], [], none, none, 0, 0, rfl, rfl, rfl, ⟨by omega, by omega, by omega⟩, ⟨rfl, rfl, by simp, by simp⟩, ⟨⟨rfl, Nat.zero_le _, fun h => absurd h (Nat.lt_irrefl 0)⟩, by simp, ⟨rfl, Nat.zero_le _, fun h => absurd h (Nat.lt_irrefl 0)⟩, by simp, fun _ => rfl⟩, M0⟩
  case round =>
    obtain ⟨i, ps, l, Ap, Al, cp, cl, rfl, rfl, rfl, HK, HI, HR, M1⟩ := hrel
    clear M0
    obtain ⟨wo, rfl⟩ : ∃ wo : World, wo = wr := ⟨_, rfl⟩
    by_cases hgo : i < acts.length ∧ i < 100
    · obtain ⟨hlt, h100⟩ := hgo
      have hd1 : decide ((i : Int) < (acts.length : Int)) = true := decide_eq_true (by omega)
      have hd2 : decide ((i : Int) < 100) = true := decide_eq_true (by omega)
      obtain ⟨ad, e, hx0, hx1, hx2⟩ := at_A HC.out (i : Int) (by omega) (by omega)
      cases e
      rw [Int.toNat_natCast] at hx0 hx1 hx2
      generalize rd_A acts (i : Int) = x at hx0 hx1 hx2
      have hy0 := (M1.out.below.cell (World.block_lt_of_cell? w _ hx0)).trans hx0
      have hy1 := (M1.out.below.cell (World.block_lt_of_cell? w _ hx1)).trans hx1
      have hy2 := (M1.out.below.cell (World.block_lt_of_cell? w _ hx2)).trans hx2
      have hij : ((i : Int) < (acts.length : Int)) = True := eq_true (by omega)
      have MB := Aside0.mk ((Mem.nil wo).allocAt #[.string x.f0, .string x.f1, .bool x.f2] 39 wo.heap.size rfl)
      clear hx0 hx1 hx2
      by_cases hk : 1000 < x.f0.size
      · have hd3 : decide (1000 < (x.f0.size : Int)) = true := decide_eq_true (by omega)
        go_wp2_with fail
        go_roundg (100 - i)
        case measure => have := HK.out; omega
        case rel => exact ⟨i + 1, ps, l, Ap, Al, cp, cl, rfl, rfl, by go_num, ⟨by omega, by omega, by omega⟩, ⟨HI.out.1, HI.out.2.1, by have := HI.out.2.2.1; omega, by have := HI.out.2.2.2; omega⟩, ⟨Kd.C_below HR.out.1 MB.out.below, HR.out.2.1, Kd.C_below HR.out.2.2.1 MB.out.below, HR.out.2.2.2⟩, ⟨Mem.sel (ps := [_]) (F := []) [] 1 (M1.out.trans MB.out) rfl rfl⟩⟩
      · have hd3 : decide (1000 < (x.f0.size : Int)) = false := decide_eq_false (by omega)
        by_cases hv : 1000 < x.f1.size
        · have hd4 : decide (1000 < (x.f1.size : Int)) = true := decide_eq_true (by omega)
          go_wp2_with fail
          go_roundg (100 - i)
          case measure => have := HK.out; omega
          case rel => exact ⟨i + 1, ps, l, Ap, Al, cp, cl, rfl, rfl, by go_num, ⟨by omega, by omega, by omega⟩, ⟨HI.out.1, HI.out.2.1, by have := HI.out.2.2.1; omega, by have := HI.out.2.2.2; omega⟩, ⟨Kd.C_below HR.out.1 MB.out.below, HR.out.2.1, Kd.C_below HR.out.2.2.1 MB.out.below, HR.out.2.2.2⟩, ⟨Mem.sel (ps := [_]) (F := []) [] 1 (M1.out.trans MB.out) rfl rfl⟩⟩
        · have hd4 : decide (1000 < (x.f1.size : Int)) = false := decide_eq_false (by omega)
          clear hk hv
          have HPL := Aside0.mk (place_le l x.f0.toList)
          obtain ⟨P, hP⟩ : ∃ P, place l x.f0.toList = P := ⟨_, rfl⟩
          have HP := Aside0.mk hP
          rw [hP] at HPL
          clear hP
          have hPb : P ≤ 1000 := by have := HPL.out; have := HI.out.2.2.2; omega
          go_wp2_with fail
          clear hd1 hd2 hd3 hd4 hy0 hy1 hy2 hij
          go_loopg [7] (P + 1) (fun kr v7 w'' => ∃ j : Nat, v7 = .int .i64 j ∧ Aside0 (j ≤ P ∧ kr = P + 1 - j) ∧ Aside0 (Mem wo w'' [blk wo.heap.size 39 #[.string x.f0, .string x.f1, .bool x.f2]]))
          case atStart => exact ⟨0, rfl, ⟨by omega, by omega⟩, MB⟩
          case round =>
            obtain ⟨j, rfl, HJ, M2⟩ := hrel
            clear MB
            have c0 := blk_cell (M2.out.blk_at 0 rfl) 0
            have c1 := blk_cell (M2.out.blk_at 0 rfl) 1
            have c2 := blk_cell (M2.out.blk_at 0 rfl) 2
            by_cases hjP : j < P
            · have hjl : j < l.length := by have := HPL.out; omega
              have hd1 : decide ((j : Int) < (l.length : Int)) = true := decide_eq_true (by omega)
              have hjb : j < 1000 := by omega
              obtain ⟨al, e, hz0, _⟩ := at_T41 HR.out.2.2.1 (j : Int) (by omega) (by omega)
              cases e
              rw [Int.toNat_natCast, Py.rdT hjl] at hz0
              have hz3 := (M2.out.below.cell (World.block_lt_of_cell? wo _ hz0)).trans hz0
              have hb : Op.bytesLess l[j].f0.toList x.f0.toList = true := place_lo l x.f0.toList j hjl (by rw [HP.out]; exact hjP)
              generalize l[j].f0 = kk at hz3 hb
              have hj1 : ((j : Int) < (l.length : Int)) = True := eq_true (by omega)
              clear hz0
              go_upto_region 9 with (fail)
              go_quiet (fail)
              go_wp2_with fail
              go_roundg (P - j)
              case measure => have := HJ.out; omega
              case rel => exact ⟨j + 1, by go_num, ⟨by omega, by omega⟩, ⟨M2.out.drewN _⟩⟩
            · have hjP2 : j = P := by have := HJ.out; omega
              subst hjP2
              have HPi := Aside0.mk HPL.out
              go_upto_region 9 with (fail)
              go_cut [46] (fun v46 wc => v46 = .bool false ∧ Aside0 (Mem wo wc [blk wo.heap.size 39 #[.string x.f0, .string x.f1, .bool x.f2]]))
              case first =>
                by_cases hjl : j < l.length
                · have hd1 : decide ((j : Int) < (l.length : Int)) = true := decide_eq_true (by omega)
                  obtain ⟨al, e, hz0, _⟩ := at_T41 HR.out.2.2.1 (j : Int) (by omega) (by omega)
                  cases e
                  rw [Int.toNat_natCast, Py.rdT hjl] at hz0
                  have hz3 := (M2.out.below.cell (World.block_lt_of_cell? wo _ hz0)).trans hz0
                  have hb : Op.bytesLess l[j].f0.toList x.f0.toList = false := by
                    have h5 := place_hi l x.f0.toList (by rw [HP.out]; exact hjl)
                    have e5 : place l x.f0.toList = j := HP.out
                    have e6 : l[place l x.f0.toList]'(by rw [e5]; exact hjl) = l[j] := by congr 1
                    rw [e6] at h5
                    exact h5
                  generalize l[j].f0 = kk at hz3 hb
                  have hj1 : ((j : Int) < (l.length : Int)) = True := eq_true (by omega)
                  clear hz0
                  go_quiet (fail)
                  go_wp2_with fail
                  go_meet
                  case rel => exact ⟨rfl, ⟨M2.out.drewN _⟩⟩
                · have hd1 : decide ((j : Int) < (l.length : Int)) = false := decide_eq_false (by omega)
                  go_quiet (fail)
                  go_wp2_with fail
                  go_meet
                  case rel => exact ⟨rfl, ⟨M2.out.drewN _⟩⟩
              case rest =>
                obtain ⟨rfl, M3⟩ := hcut
                clear M2 c0 c1 c2
                have c0 := blk_cell (M3.out.blk_at 0 rfl) 0
                have c1 := blk_cell (M3.out.blk_at 0 rfl) 1
                have c2 := blk_cell (M3.out.blk_at 0 rfl) 2
                obtain ⟨m0, hm0⟩ : ∃ m0, l.take j = m0 := ⟨_, rfl⟩
                have HM0 := Aside0.mk hm0
                have HTL := Aside0.mk (show m0.length = j by rw [← hm0, List.length_take]; have := HPi.out; omega)
                have hq1 : (j : Int) ≤ (l.length : Int) := by have := HPi.out; omega
                have hq2 : (j : Int) ≤ (cl : Int) := by have := HPi.out; have := HR.out.2.2.2.1; omega
                have hq3 : j ≤ cl := by omega
                have hq4 : j ≤ l.length := by omega
                have MM := Aside0.mk (Mem.row_nil M3.out kP 41)
                clear hm0
                go_upto_if 56 with (((with_reducible refine gate_builtin (b := .append) (xs := #[.tmp 49, .tmp 52]) rfl ?_); at_builtin; refine Mem.app kP MM.out 0 _ [] m0 rfl (.tmp 49) (.tmp 52) 32 41 _ _ rfl Try.underlying32 info41 rfl (by decide) (by omega) Al _ cl rfl rfl rfl (by have h := Kd.C_take (Kd.C_below HR.out.2.2.1 M3.out.below) HPi.out; rw [HM0.out, HTL.out] at h; exact h) (fun x cs h => by obtain rfl := flatP.rd_ h; exact flatP.mk_ _ _ _ x) (by simp; omega) ?_; intro v1 w1 hM1; rw [List.nil_append] at hM1; obtain ⟨A1, c1', e1, hc1, _⟩ := hM1.row_at 0 rfl; rw [HTL.out] at e1; subst e1; have M4 := Aside0.mk hM1; clear hM1 hc1; have cb0 := blk_cell (M4.out.blk_at 1 rfl) 0; have cb1 := blk_cell (M4.out.blk_at 1 rfl) 1; have cb2 := blk_cell (M4.out.blk_at 1 rfl) 2))
                go_cut [8] (fun v8 wc => ∃ (A2 : Option Addr) (n2 c2 : Nat), v8 = .slice A2 n2 c2 ∧ Aside0 (Mem wo wc [row kP 41 (.slice A2 n2 c2) (m0 ++ newp x), blk wo.heap.size 39 #[.string x.f0, .string x.f1, .bool x.f2]]))
                case first =>
                  cases hf : x.f2 with
                  | true =>
                    have HF := Aside0.mk hf
                    go_wp2_with fail
                    go_meet
                    case rel => exact ⟨A1, _, c1', rfl, ⟨by have h5 := M4.out; unfold newp; rw [HF.out, if_pos rfl, List.append_nil]; rw [HF.out] at h5; exact h5⟩⟩
                  | false =>
                    have HF := Aside0.mk hf
                    have MQ := Aside0.mk (M4.out.allocAt #[.string x.f0, .string x.f1] 41 w1.heap.size rfl)
                    go_wp2_with (((with_reducible refine gate_builtin (b := .append) (xs := #[.tmp 57, .tmp 63]) rfl ?_); at_builtin; refine Mem.app kP (Rr := fun y cs => y = (⟨x.f0, x.f1⟩ : SP) ∧ cs = [.string x.f0, .string x.f1]) MQ.out 1 _ m0 [⟨x.f0, x.f1⟩] rfl (.tmp 57) (.tmp 63) 32 41 _ _ rfl Try.underlying32 info41 rfl (by decide) (by omega) (some ⟨w1.heap.size, 0, none⟩) 1 1 rfl rfl rfl (reads_one (⟨x.f0, x.f1⟩ : SP) (MQ.out.blk_at 0 rfl) rfl) (fun y cs h => by obtain ⟨rfl, rfl⟩ := h; exact flatP.mk_ _ _ _ _) (by have := HTL.out; omega) ?_; intro v2 w2 hM1; have M6 := Aside0.mk hM1; clear hM1))
                    go_meet
                    case rel =>
                      obtain ⟨A3, c3, e3, hc3, _⟩ := M6.out.row_at 1 rfl
                      subst e3
                      refine ⟨A3, _, c3, rfl, ⟨?_⟩⟩
                      have h5 := Mem.sel (ps := [_, _, _]) (F := []) [1, 2] 3 M6.out rfl rfl
                      unfold newp
                      rw [HF.out] at h5
                      rw [HF.out, if_neg (by simp)]
                      exact h5
                case rest =>
                  obtain ⟨A2, n2, c2', rfl, M5⟩ := hcut
                  clear M4 MM M3 c0 c1 c2
                  have c0 := blk_cell (M5.out.blk_at 1 rfl) 0
                  have c1 := blk_cell (M5.out.blk_at 1 rfl) 1
                  have c2 := blk_cell (M5.out.blk_at 1 rfl) 2
                  obtain ⟨T, hT⟩ : ∃ T, there l x.f0.toList = T := ⟨_, rfl⟩
                  have HT := Aside0.mk hT
                  clear hT
                  go_upto_region 15 with (fail)
                  go_cut [78] (fun v78 wc => v78 = .bool T ∧ Aside0 (Mem wo wc [row kP 41 (.slice A2 n2 c2') (m0 ++ newp x), blk wo.heap.size 39 #[.string x.f0, .string x.f1, .bool x.f2]]))
                  case first =>
                    by_cases hjl : j < l.length
                    · have hd1 : decide ((j : Int) < (l.length : Int)) = true := decide_eq_true (by omega)
                      obtain ⟨al, e, hz0, _⟩ := at_T41 HR.out.2.2.1 (j : Int) (by omega) (by omega)
                      cases e
                      rw [Int.toNat_natCast, Py.rdT hjl] at hz0
                      have hz3 := (M5.out.below.cell (World.block_lt_of_cell? wo _ hz0)).trans hz0
                      have hb : (l[j].f0.toList == x.f0.toList) = T := by
                        have e5 : place l x.f0.toList = j := HP.out
                        have h5 := there_in (l := l) (key := x.f0.toList) (by rw [e5]; exact hjl)
                        have e6 : l[place l x.f0.toList]'(by rw [e5]; exact hjl) = l[j] := by congr 1
                        rw [e6, HT.out] at h5
                        exact h5.symm
                      generalize l[j].f0 = kk at hz3 hb
                      have hj1 : ((j : Int) < (l.length : Int)) = True := eq_true (by omega)
                      clear hz0
                      go_quiet (fail)
                      go_wp2_with fail
                      go_meet
                      case rel => exact ⟨rfl, ⟨M5.out.drewN _⟩⟩
                    · have hd1 : decide ((j : Int) < (l.length : Int)) = false := decide_eq_false (by omega)
                      have hT2 : T = false := by rw [← HT.out]; exact there_out (by have e5 : place l x.f0.toList = j := HP.out; omega)
                      go_quiet (fail)
                      go_wp2_with fail
                      go_meet
                      case rel => exact ⟨by rw [hT2], ⟨M5.out.drewN _⟩⟩
                  case rest =>
                    obtain ⟨rfl, M6⟩ := hcut
                    clear M5 c0 c1 c2
                    obtain ⟨Q, hQ⟩ : ∃ Q, after l x.f0.toList = Q := ⟨_, rfl⟩
                    have HQ := Aside0.mk hQ
                    have HQL := Aside0.mk (show j ≤ Q ∧ Q ≤ l.length by rw [← hQ, ← HP.out]; exact after_le l _)
                    clear hQ
                    go_upto_if 78 with (fail)
                    go_cut [7] (fun v7 wc => v7 = .int .i64 Q ∧ Aside0 (Mem wo wc [row kP 41 (.slice A2 n2 c2') (m0 ++ newp x), blk wo.heap.size 39 #[.string x.f0, .string x.f1, .bool x.f2]]))
                    case first =>
                      cases T with
                      | true =>
                        have e7 : (Q : Int) = (j : Int) + 1 := by have h5 := HQ.out; unfold after at h5; rw [HT.out, if_pos rfl, HP.out] at h5; omega
                        go_wp2_with fail
                        go_meet
                        case rel => exact ⟨by rw [e7], M6⟩
                      | false =>
                        have e7 : Q = j := by have h5 := HQ.out; unfold after at h5; rw [HT.out, if_neg (by simp), HP.out] at h5; exact h5.symm
                        go_wp2_with fail
                        go_meet
                        case rel => exact ⟨by rw [e7], M6⟩
                    case rest =>
                      obtain ⟨rfl, M7⟩ := hcut
                      clear M6
                      obtain ⟨l2, hl2⟩ : ∃ l2, ins l x.f0 (opt x) = l2 := ⟨_, rfl⟩
                      have HL2 := Aside0.mk hl2
                      have HLL := Aside0.mk (show (m0 ++ newp x) ++ l.drop Q = l2 by rw [← hl2, ins_newp, HP.out, HQ.out, HM0.out])
                      have HLN := Aside0.mk (show l2.length ≤ l.length + 1 by rw [← hl2]; exact ins_len _ _ _)
                      obtain ⟨m2, hm2⟩ : ∃ m2, m0 ++ newp x = m2 := ⟨_, rfl⟩
                      obtain ⟨r2, hr2⟩ : ∃ r2, l.drop Q = r2 := ⟨_, rfl⟩
                      have HR2 := Aside0.mk hr2
                      have HR2L := Aside0.mk (show r2.length = l.length - Q by rw [← hr2, List.length_drop])
                      rw [hm2] at M7 HLL
                      rw [hr2] at HLL
                      have HM2L := Aside0.mk (show m2.length ≤ 2000 by have h5 := HLL.out; have h6 := HLN.out; have h7 := HI.out.2.2.2; rw [← h5, List.length_append] at h6; omega)
                      clear hl2 hm2 hr2
                      have hq1' : (Q : Int) ≤ (l.length : Int) := by have := HQL.out; omega
                      have hq2' : (Q : Int) ≤ (cl : Int) := by have := HQL.out; have := HR.out.2.2.2.1; omega
                      have hq3' : Q ≤ cl := by omega
                      have hq4' : Q ≤ l.length := by omega
                      clear hq1 hq2 hq3 hq4
                      go_upto_region 17 with (fail)
                      go_cut [8] (fun v8 wc => ∃ (A3 : Option Addr) (c3 : Nat), v8 = .slice A3 l2.length c3 ∧ Aside0 (Mem wo wc [row kP 41 (.slice A3 l2.length c3) l2, blk wo.heap.size 39 #[.string x.f0, .string x.f1, .bool x.f2]]))
                      case first =>
                        have CD := Aside0.mk (Kd.C_drop (Kd.C_below HR.out.2.2.1 M7.out.below) hq4' HR.out.2.2.2.1)
                        cases Al with
                        | none =>
                          have hcl : cl = 0 := HR.out.2.2.2.2 rfl
                          have hQ0 : Q = 0 := by omega
                          have CD2 := Aside0.mk (show Kd.C kP wc none (l.length - 0) r2 by have h5 := CD.out; rw [hcl, hQ0, if_pos rfl] at h5; rw [← hQ0, HR2.out, HR2L.out, hQ0] at h5; exact h5)
                          subst hQ0
                          subst hcl
                          clear CD
                          go_wp2_with (((with_reducible refine gate_builtin (b := .append) (xs := #[.tmp 81, .tmp 84]) rfl ?_); at_builtin; refine Mem.app kP M7.out 0 _ m2 r2 rfl (.tmp 81) (.tmp 84) 32 41 _ _ rfl Try.underlying32 info41 rfl (by decide) (by omega) none _ _ rfl rfl rfl CD2.out (fun x cs h => by obtain rfl := flatP.rd_ h; exact flatP.mk_ _ _ _ x) (by have := HM2L.out; have := HI.out.2.2.2; have := HK.out; omega) ?_; intro v2 w2 hM1; rw [HLL.out] at hM1; have M8 := Aside0.mk hM1; clear hM1))
                          go_meet
                          case rel =>
                            obtain ⟨A3, c3, e3, hc3, _⟩ := M8.out.row_at 0 rfl
                            subst e3
                            exact ⟨A3, c3, rfl, M8⟩
                        | some al =>
                          by_cases hcq : cl = Q
                          · have CD2 := Aside0.mk (show Kd.C kP wc (some al) (l.length - Q) r2 by have h5 := CD.out; rw [if_pos hcq, HR2.out, HR2L.out] at h5; exact h5)
                            subst hcq
                            go_wp2_with (((with_reducible refine gate_builtin (b := .append) (xs := #[.tmp 81, .tmp 84]) rfl ?_); at_builtin; refine Mem.app kP M7.out 0 _ m2 r2 rfl (.tmp 81) (.tmp 84) 32 41 _ _ rfl Try.underlying32 info41 rfl (by decide) (by omega) (some al) _ _ rfl rfl rfl CD2.out (fun x cs h => by obtain rfl := flatP.rd_ h; exact flatP.mk_ _ _ _ x) (by have := HM2L.out; have := HI.out.2.2.2; have := HK.out; omega) ?_; intro v2 w2 hM1; rw [HLL.out] at hM1; have M8 := Aside0.mk hM1; clear hM1))
                            go_meet
                            case rel =>
                              obtain ⟨A3, c3, e3, hc3, _⟩ := M8.out.row_at 0 rfl
                              subst e3
                              exact ⟨A3, c3, rfl, M8⟩
                          · have CD2 := Aside0.mk (show Kd.C kP wc (some (al.add (Q * 2))) (l.length - Q) r2 by have h5 := CD.out; rw [if_neg hcq, HR2.out, HR2L.out] at h5; exact h5)
                            go_wp2_with (((with_reducible refine gate_builtin (b := .append) (xs := #[.tmp 81, .tmp 84]) rfl ?_); at_builtin; refine Mem.app kP M7.out 0 _ m2 r2 rfl (.tmp 81) (.tmp 84) 32 41 _ _ rfl Try.underlying32 info41 rfl (by decide) (by omega) (some (al.add (Q * 2))) _ _ rfl rfl rfl CD2.out (fun x cs h => by obtain rfl := flatP.rd_ h; exact flatP.mk_ _ _ _ x) (by have := HM2L.out; have := HI.out.2.2.2; have := HK.out; omega) ?_; intro v2 w2 hM1; rw [HLL.out] at hM1; have M8 := Aside0.mk hM1; clear hM1))
                            go_meet
                            case rel =>
                              obtain ⟨A3, c3, e3, hc3, _⟩ := M8.out.row_at 0 rfl
                              subst e3
                              exact ⟨A3, c3, rfl, M8⟩
                      case rest =>
                        obtain ⟨A3, c3, rfl, M8⟩ := hcut
                        clear M7
                        have c0 := blk_cell (M8.out.blk_at 1 rfl) 0
                        have c1 := blk_cell (M8.out.blk_at 1 rfl) 1
                        have c2 := blk_cell (M8.out.blk_at 1 rfl) 2
                        obtain ⟨a, hm1, hm2, hm3, hm4, hm5⟩ := makes ps x (by have := HI.out.2.2.1; omega) HI.out.1
                        have HMK1 := Aside0.mk hm1
                        have HMK2 := Aside0.mk hm2
                        have HA := Aside0.mk (show Py.right a = true ∧ a.flatten = l2 ∧ a.length ≤ i + 1 from ⟨hm3, by rw [hm4, HI.out.2.1]; exact HL2.out, by have := HI.out.2.2.1; omega⟩)
                        clear hm1 hm2 hm3 hm4 hm5
                        go_upto_if 88 with (fail)
                        go_cut [3] (fun v3 wc => ∃ (A4 : Option Addr) (c4 : Nat), v3 = .slice A4 a.length c4 ∧ Aside0 (Kd.C (Kd.slice 41 kP) wc A4 a.length a ∧ a.length ≤ c4) ∧ Aside0 (Mem wo wc [row kP 41 (.slice A3 l2.length c3) l2, blk wo.heap.size 39 #[.string x.f0, .string x.f1, .bool x.f2]]))
                        case first =>
                          cases hf : x.f2 with
                          | true =>
                            have HX := Aside0.mk ((HMK1.out hf).run Ap cp)
                            go_wp2_with fail
                            refine (HX.out _ (Kd.C_below HR.out.1 M8.out.below) HR.out.2.1).mono ?_
                            rintro e w5 ⟨v, hs, rfl, hM⟩
                            obtain ⟨A4, c4, rfl, hc4, _, hC4⟩ := hM.read
                            have M9 := Aside0.mk (M8.out.grow hM.mem.below)
                            have HC4 := Aside0.mk hC4
                            have HL4 := Aside0.mk hc4
                            clear hM hC4 hc4
                            go_wp2_with fail
                            go_meet
                            case rel => exact ⟨A4, c4, rfl, ⟨HC4.out, HL4.out⟩, M9⟩
                          | false =>
                            have HX := Aside0.mk ((HMK2.out hf).run Ap cp)
                            go_wp2_with fail
                            refine (HX.out _ (Kd.C_below HR.out.1 M8.out.below) HR.out.2.1).mono ?_
                            rintro e w5 ⟨v, hs, rfl, hM⟩
                            obtain ⟨A4, c4, rfl, hc4, _, hC4⟩ := hM.read
                            have M9 := Aside0.mk (M8.out.grow hM.mem.below)
                            have HC4 := Aside0.mk hC4
                            have HL4 := Aside0.mk hc4
                            clear hM hC4 hc4
                            go_wp2_with fail
                            go_meet
                            case rel => exact ⟨A4, c4, rfl, ⟨HC4.out, HL4.out⟩, M9⟩
                        case rest =>
                          obtain ⟨A4, c4, rfl, HC4, M9⟩ := hcut
                          obtain ⟨k1, hk1⟩ := (Py.ref_right a (by have := HA.out.2.2; omega)).rounds
                          obtain ⟨k2, hk2⟩ := (Py.page_right a (by have := HA.out.2.2; omega)).rounds
                          rw [HA.out.1] at hk1 hk2
                          have HK1 := Aside0.mk hk1
                          have HK2 := Aside0.mk hk2
                          clear hk1 hk2 M8 HMK1 HMK2
                          go_wp2_with fail
                          refine (falseworkref7_Right.calls k1 A4 c4 a true _ HC4.out.1 HC4.out.2 HK1.out).mono ?_
                          rintro e w6 ⟨rfl, hD⟩
                          have MA := Aside0.mk (M9.out.drawn hD)
                          have HC5 := Aside0.mk (Kd.C_below HC4.out.1 hD.below)
                          clear hD
                          go_wp2_with fail
                          refine (page_Right.calls k2 A4 c4 a true _ HC5.out HC4.out.2 HK2.out).mono ?_
                          rintro e w7 ⟨rfl, hb⟩
                          have MB := Aside0.mk (MA.out.grow hb)
                          have HC6 := Aside0.mk (Kd.C_below HC5.out hb)
                          clear hb
                          go_wp2_with fail
                          go_roundg (100 - i)
                          case measure => have := HK.out; omega
                          case rel =>
                            obtain ⟨_, _, e9, hc9, hC9⟩ := MB.out.row_at 0 rfl
                            cases e9
                            exact ⟨i + 1, a, l2, A4, A3, c4, c3, rfl, rfl, by go_num, ⟨by omega, by omega, by omega⟩, ⟨HA.out.1, HA.out.2.1, HA.out.2.2, by have := HLN.out; have := HI.out.2.2.2; omega⟩, ⟨HC6.out, HC4.out.2, hC9, hc9, fun h => by subst h; exact row_none (MB.out.hold (i := 0) rfl)⟩, ⟨Mem.sel (ps := [_, _]) (F := []) [] 2 (M1.out.trans MB.out) rfl rfl⟩⟩
    · have M2 := Aside0.mk M1.out
      have hfl := HI.out.2.1
      subst hfl
      obtain ⟨k1, hk1⟩ := (Pz.pairs_ev ps.flatten ps.flatten (Pz.Al_refl _) (by have := HI.out.2.2.2; have := HK.out; omega)).rounds
      have HX := Aside0.mk (scan_all ps (by have := HI.out.2.2.1; have := HK.out; omega) HI.out.1 Ap cp)
      have HK1 := Aside0.mk hk1
      have hlb : ps.flatten.length ≤ 1000 := by have := HI.out.2.2.2; have := HK.out; omega
      obtain ⟨L, hL⟩ : ∃ L, ps.flatten = L := ⟨_, rfl⟩
      rw [hL] at HX HK1 HR hlb
      rw [hL]
      clear hk1 M1 hL HI
      by_cases hlt : i < acts.length
      all_goals
        first
          | (have hd1 : decide ((i : Int) < (acts.length : Int)) = true := decide_eq_true (by omega)
             have hd2 : decide ((i : Int) < 100) = false := decide_eq_false (by omega)
             clear hgo
             skip)
          | (have hd1 : decide ((i : Int) < (acts.length : Int)) = false := decide_eq_false (by omega)
             clear hgo
             skip)
        go_wp2_with fail
        refine (HX.out _ HR.out.1 HR.out.2.1).mono ?_
        rintro e w1 ⟨v, rfl, hM⟩
        obtain ⟨A5, c5, rfl, hc5, hC5⟩ := hM.row_at 0 rfl
        have M3 := Aside0.mk (M2.out.grow hM.below)
        have HC5 := Aside0.mk hC5
        have HL5 := Aside0.mk hc5
        have HC6 := Aside0.mk (Kd.C_below HR.out.2.2.1 hM.below)
        clear hM hC5 hc5
        go_wp2_with fail
        refine (falseworkref7_Pairs.calls k1 A5 c5 L Al cl L true _ HC5.out HL5.out HC6.out HR.out.2.2.2.1 HK1.out).mono ?_
        rintro e w2 ⟨rfl, hD⟩
        have M4 := Aside0.mk (M3.out.drawn hD)
        clear hD
        go_wp2_with fail
        refine (awake_calls _).mono ?_
        rintro e w9 ⟨rfl, hM⟩
        have M9 := Aside0.mk (M4.out.trans hM)
        clear hM
        go_wp2
        go_ret
        exact ⟨rfl, M9.out.reindex id id (fun i r hi => by simp at hi)⟩
end Go.Proofs.Ytookpmdgoednfaa.Lw
