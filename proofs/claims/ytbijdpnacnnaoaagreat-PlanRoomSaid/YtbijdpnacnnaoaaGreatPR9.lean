/- Walks of the functions that the statement reaches. No conditions: contracts and laws. -/
import Derived.Test.YtbijdpnacnnaoaaGreatSG
import Derived.Test.YtbijdpnacnnaoaaGreatYHl
namespace Go.Fg.X
open Go.Proofs Go.Fg
set_option maxRecDepth 100000
set_option maxHeartbeats 4000000
set_option linter.unusedSimpArgs false
set_option linter.unusedVariables false
@[go_sem] def dsp (s : SP.Sp) : D := .agg s.cells
/-- When what came since a span's beginning is sent at the latest. -/
def sentV (T L : Int) (a d b : Nat) (u : List Ev) (leaf : Int) (s : SP.Sp) : Nat := togV s.frm.toNat (delV T L a d b (camV (u.drop s.fst.toNat) [leaf] 0 18446744073709551615))
theorem c64m : (18446744073709551615 : Int) = ((18446744073709551615 : Nat) : Int) := rfl
theorem evs_drop (u : List Ev) (k : Nat) : ∀ i, i < u.length - k → Ev.rows u (k + i) = Ev.rows (u.drop k) i := fun i hi => by
  simp only [Ev.rows_at, List.getD_eq_getElem?_getD, List.getElem?_drop]
theorem latest1_ok (h : List Ob) (b1 b2 b3 b4 b5 : Nat) (T L : Int) (a d b : Nat) (u : List Ev) (leaf : Int) (s : SP.Sp) (row3 row5 : Nat → List D)
    (h1 : (h.map Ob.ro)[b1]? = some ⟨.rone, 0, 2, 1, fun _ => [dint T, dint L]⟩) (h2 : (h.map Ob.ro)[b2]? = some ⟨.rone, 0, 3, 1, fun _ => [u64 a, u64 d, u64 b]⟩) (h3 : (h.map Ob.ro)[b3]? = some ⟨.rone, 0, 1, 1, fun _ => [.imm 12 u.length row3]⟩) (h4 : (h.map Ob.ro)[b4]? = some ⟨.rone, 0, 1, 1, fun _ => [.ref b5 0 0 1]⟩)
    (h5 : (h.map Ob.ro)[b5]? = some ⟨.rarr, 0, 1, 1, row5⟩) (hr3 : ∀ i, i < u.length → row3 i = Ev.rows u i) (hr5 : row5 0 = [dint leaf])
    (ha : a < 18446744073709551616) (hd : d < 18446744073709551616) (hb0 : b < 18446744073709551616) (hm : mayL T L = true) (hu : u.length < 2147483648) (ho : ∀ e ∈ u, e.Ok) (f0 : 0 ≤ s.frm ∧ s.frm ≤ 18446744073709551615) (k : Nat) (hk : s.fst = k) (hku : k ≤ u.length) :
    RFn0 Tryz.prog 36 h [dsp s, .ptr b1 0 0 0, .ptr b2 0 0 0, .ptr b3 0 0 0, .ptr b4 0 0 0] (fun v => v = u64 (sentV T L a d b u leaf s)) := by
  obtain ⟨fr, hfr⟩ : ∃ n : Nat, s.frm = (n : Int) := ⟨s.frm.toNat, by omega⟩
  obtain ⟨cm, hcm⟩ : ∃ cm, cm = camV (u.drop k) [leaf] 0 18446744073709551615 := ⟨_, rfl⟩
  have hcl : cm < 18446744073709551616 := by rw [hcm]; exact camV_lt _ _ _ _
  have hdl : (u.drop k).length = u.length - k := by simp
  have hse : sentV T L a d b u leaf s = togV fr (delV T L a d b cm) := by rw [sentV, hk, hfr, hcm]; rfl
  have hku2 : ((k : Int) ≤ (u.length : Int)) := by omega
  have hdo : ∀ e ∈ u.drop k, e.Ok := fun e he => ho e (List.mem_of_mem_drop he)
  rw [hse]
  refine RFn0_hx cx_ok 200 Tryz.func36 rfl Tryz.ntmps36 Tryz.results36 rfl fun base w pl F hF hFl hb => ?_
  rw [← hF] at h1 h2 h3 h4 h5
  have h1_l := hlt h1
  have h2_l := hlt h2
  have h3_l := hlt h3
  have h4_l := hlt h4
  have h5_l := hlt h5
  simp only [go_sem, simprocAttr, hgetA, hgetL, hgetLk, hsetA, hsetL, hsetLk, List.length_append, List.length_set, List.append_assoc, List.set_set, h1, h1_l, h2, h2_l, h3, h3_l, h4, h4_l, h5, h5_l]
  refine kont_hax cx_ok hb 200 mixed [(0, true), (1, true), (2, true), (3, true), (4, true), (5, true), (6, true), (7, false), (8, false), (9, true), (10, true), (11, true), (12, true), (13, true)] (by kernel_rfl) (by kernel_rfl) ?_
  simp only [go_sem, simprocAttr, hgetA, hgetL, hgetLk, hsetA, hsetL, hsetLk, List.length_append, List.length_set, List.append_assoc, List.set_set, h1, h2, h3, h4, h1_l, h2_l, h3_l, h4_l, hk, hku2]
  have hn : ((u.length : Int) - (k : Int)).toNat = (u.drop k).length := by simp
  refine AX_call hb fn37 rfl ?_ (tcame_ok (u.drop k) [leaf] 0 18446744073709551615 (by omega) (by simp) hdo) (Ret.flat rfl) rfl fun v h' hR => ?_
  · simp only [go_sem, simprocAttr, hgetA, hgetL, hgetLk, hsetA, hsetL, hsetLk, List.length_append, List.length_set, List.append_assoc, List.set_set, hn, h5, h5_l, ← c64m]
    refine ⟨fun i hi => ?_, fun i hi => ?_, fun i hi => ?_⟩
    · have : i = 0 := by omega
      subst this; rw [hr5]; rfl
    · rw [hdl] at hi
      rw [hr3 (k + i) (by omega), evs_drop u k i hi]; rfl
    · have : i = 0 := by omega
      subst this; rw [hr5]; rfl
  obtain ⟨rfl, rfl⟩ := hR
  rw [← hcm]
  refine AX_of_hax cx_ok hb ?_
  simp only [go_sem, simprocAttr, hgetA, hgetL, hgetLk, hsetA, hsetL, hsetLk, List.length_append, List.length_set, List.append_assoc, List.set_set, h1, h2, h3, h4, h1_l, h2_l, h3_l, h4_l]
  refine AX_call hb fn14 rfl ?_ (delay_ok T L a d b cm ha hd hb0 hcl hm) (Ret.flat rfl) rfl fun d h hR => ?_
  · simp only [go_sem, simprocAttr, hgetA, hgetL, hgetLk, hsetA, hsetL, hsetLk, List.length_append, List.length_set, List.append_assoc, List.set_set, hfr]
  obtain ⟨rfl, rfl⟩ := hR
  refine AX_of_hax cx_ok hb ?_
  simp only [go_sem, simprocAttr, hgetA, hgetL, hgetLk, hsetA, hsetL, hsetLk, List.length_append, List.length_set, List.append_assoc, List.set_set, hfr]
  refine kont_call hb fn33 rfl ?_ (together_ok fr (delV T L a d b cm) (by omega) (by have := togV_le (tickV a d b (cm * 65536)) (T.toNat * L.toNat); unfold delV; omega)) (Ret.flat rfl) rfl fun d h hR => ?_
  · simp only [go_sem, simprocAttr, hgetA, hgetL, hgetLk, hsetA, hsetL, hsetLk, List.length_append, List.length_set, List.append_assoc, List.set_set, hfr]
  obtain ⟨rfl, rfl⟩ := hR
  refine kont_of_hx cx_ok hb 200 ?_
  simp only [go_sem, simprocAttr, hgetA, hgetL, hgetLk, hsetA, hsetL, hsetLk, List.length_append, List.length_set, List.append_assoc, List.set_set, hfr]
  exact ⟨_, rfl⟩
@[go_sem] def sps (l : List SP.Sp) : D := .imm 5 l.length (fun i => (l.getD i default).cells)
def latV (T L : Int) (a d b : Nat) (u : List Ev) (leaf : Int) : Nat := (SP.spAt [leaf] u u.length).foldl (fun m s => max m (sentV T L a d b u leaf s)) 0
theorem latest_ok (T L : Int) (a d b : Nat) (l : List Ev) (leaf : Int) (k : Nat) (ha : a < 18446744073709551616) (hd : d < 18446744073709551616) (hb0 : b < 18446744073709551616) (hl : l.length < 2147483648) (ho : ∀ e ∈ l, e.Ok) (hm : mayL T L = true)
    (hk : k < l.length) (hi : (l.getD k default).inn = true) (hc : (l.getD k default).cls = leaf) :
    AFn Tryz.prog 15 [cfg T L, crv a d b, evs l, dint leaf, dint k] (Ret (.tup [u64 (latV T L a d b (l.take (k + 1)) leaf), dint 0])) := by
  have h0 : ¬ ((k : Int) < 0) := by omega
  have hk2 : ¬ ((k : Int) ≥ (l.length : Int)) := by omega
  have hk3 : (k : Int) + 1 ≤ (l.length : Int) := by omega
  have hwr := wrap_succ (show k < 4611686018427387904 by omega)
  refine AFn_hxk 0 cx_ok 200 Tryz.func15 rfl Tryz.ntmps15 Tryz.results15 rfl fun base w hb => ?_
  simp only [go_sem, simprocAttr]
  refine kont_call hb fn14 rfl ?_ (delay_ok T L a d b 0 ha hd hb0 (by decide) hm) (Ret.flat rfl) rfl fun d h hR => ?_
  · simp only [go_sem, simprocAttr, decide_eq_false h0, decide_eq_false hk2, decide_eq_false (show ¬ l.length ≤ k by omega), hk, hi, beqT hc, Go.undef, hwr, hk3, bne]
  obtain ⟨rfl, rfl⟩ := hR
  refine kont_of_hx cx_ok hb 200 ?_
  simp only [go_sem, simprocAttr, decide_eq_false h0, decide_eq_false hk2, decide_eq_false (show ¬ l.length ≤ k by omega), hk, hi, beqT hc, Go.undef, hwr, hk3, bne]
  have hu : (l.take (k + 1)).length = k + 1 := by simp; omega
  have hgd : ∀ i, i < k + 1 → (l.take (k + 1)).getD i default = l.getD i default := fun i hi => by simp only [List.getD_eq_getElem?_getD, List.getElem?_take, if_pos hi]
  obtain ⟨u, huu⟩ : ∃ u, u = l.take (k + 1) := ⟨_, rfl⟩
  rw [← huu] at hu hgd ⊢
  have huo : ∀ e ∈ u, e.Ok := fun e he => ho e (by rw [huu] at he; exact List.mem_of_mem_take he)
  refine And.intro (by omega) ?_
  refine kont_call hb fn38 rfl ?_ (SP.of_ok u [leaf] (by omega) (by simp)) (RetL.flat fun x => rfl) rfl fun v h' hR => ?_
  · simp only [go_sem, simprocAttr, hu]
    refine ⟨⟨by omega, fun i hi => by rw [hgd i hi]⟩, fun i hi => ?_⟩
    obtain rfl : i = 0 := by omega
    rfl
  obtain ⟨g0, rfl, rfl⟩ := hR
  refine kont_of_hx cx_ok hb 200 ?_
  simp only [go_sem, simprocAttr]
  obtain ⟨Sl, hSl⟩ : ∃ Sl, Sl = SP.spAt [leaf] u u.length := ⟨_, rfl⟩
  have hSlen := SP.spAt_len [leaf] u u.length
  rw [← hSl] at hSlen ⊢
  have hlv : latV T L a d b u leaf = Sl.foldl (fun m s => max m (sentV T L a d b u leaf s)) 0 := by rw [hSl]; rfl
  rw [hlv]
  obtain ⟨r3, hr3⟩ : ∃ r3 : Nat → List D, r3 = fun i => (l.getD i default).cells := ⟨_, rfl⟩
  have hr3' := hr3
  simp only [go_sem, simprocAttr] at hr3'
  refine kont_for (fun i s => s = ⟨[(14, .ptr 3 0 0 0), (15, .ptr 4 0 0 0), (16, .clo 36 0 [.ptr 0 0 0 0, .ptr 1 0 0 0, .ptr 4 0 0 0, .ptr 3 0 0 0]), (17, u64 ((Sl.take i).foldl (fun m s => max m (sentV T L a d b u leaf s)) 0)), (63, .ref 5 g0 0 Sl.length), (64, dint Sl.length), (65, dint i)],
    [⟨.one, 0, 2, 1, fun _ => [dint T, dint L]⟩, ⟨.one, 0, 3, 1, fun _ => [u64 a, u64 d, u64 b]⟩, ⟨.arr, 0, 1, 1, fun _ => [dint leaf]⟩, ⟨.one, 0, 1, 1, fun _ => [.ref 2 0 0 1]⟩, ⟨.one, 0, 1, 1, fun _ => [.imm 12 u.length r3]⟩, ⟨.arr, g0, 5, Sl.length, fun i => (Sl.getD i default).cells⟩]⟩) Sl.length
    (Weak.to 6 ⟨by simp only [go_sem, simprocAttr, List.foldl_nil], by simp only [go_sem, simprocAttr], by simp only [go_sem, simprocAttr], by (simp only [go_sem, simprocAttr, hu, hr3]); intro i hi; rfl⟩) rfl ?_
  rintro i s hi2 rfl
  have hwr2 := wrap_succ (show i < 4611686018427387904 by omega)
  obtain ⟨S, hS⟩ : ∃ S, S = (Sl.take i).foldl (fun m s => max m (sentV T L a d b u leaf s)) 0 := ⟨_, rfl⟩
  rw [← hS]
  refine kont_of_hx cx_ok hb 200 ?_
  simp only [go_sem, simprocAttr]
  first | refine hite_lt hi2 (fun hk1 => ?_) (fun hk1 => ?_) | refine hite_ltI hi2 (fun hk1 => ?_) (fun hk1 => ?_)
  · obtain ⟨x, hx⟩ : ∃ x, x = Sl.getD i default := ⟨_, rfl⟩
    have hst := foldl_succ (fun m s => max m (sentV T L a d b u leaf s)) 0 Sl i hk1
    rw [← hS, ← hx] at hst
    obtain ⟨j, hj, hxf, hxj⟩ : ∃ j, j < u.length ∧ x.frm = (u.getD j default).at_ ∧ x.fst = (j : Int) := by
      have hm : x ∈ SP.spAt [leaf] u u.length := by rw [hx, ← hSl]; exact getD_memA hk1
      rw [SP.spAt_map, List.mem_map] at hm
      obtain ⟨a, ha, hxa⟩ := hm
      have h1 := SP.isOpen_at [leaf] u a u.length
      rw [hxa] at h1
      exact ⟨a, SP.starts_lt [leaf] u u.length a ha, h1.1, h1.2⟩
    have hat := wf_u64 (huo _ (getD_memA hj)).2.1
    simp only [go_sem, simprocAttr, hk1, ← hx]
    refine kont_callR0 hb fn36 rfl ?_ (latest1_ok _ 0 1 4 3 2 T L a d b u leaf x r3 (fun _ => [dint leaf]) rfl rfl rfl rfl rfl (fun i hi => ?_) rfl ha hd hb0 hm (by omega) huo (by rw [hxf]; exact hat) j hxj (by omega)) rfl fun v hR => ?_
    · simp only [go_sem, simprocAttr]
    · rw [hr3, Ev.rows_at, hgd i (by omega)]
    subst hR
    refine kont_of_hx cx_ok hb 200 ?_
    simp only [go_sem, simprocAttr]
    have hmx : (max (S : Int) ((sentV T L a d b u leaf x : Nat) : Int)) = ((max S (sentV T L a d b u leaf x) : Nat) : Int) := by omega
    refine ⟨hk1, _, Weak.to 6 ⟨?_, by simp only [go_sem, simprocAttr], by simp only [go_sem, simprocAttr], ?_⟩, rfl⟩
    · simp only [go_sem, simprocAttr, hwr2, hst, hmx]
    · simp only [go_sem, simprocAttr]
  · subst hk1
    rw [List.take_length] at hS
    rw [← hS]
    refine kont_of_hx cx_ok hb 200 ?_
    simp only [go_sem, simprocAttr]
end Go.Fg.X
namespace Go.Fg.X
open Go.Proofs Go.Fg
set_option maxRecDepth 100000
set_option maxHeartbeats 4000000
set_option linter.unusedSimpArgs false
set_option linter.unusedVariables false
end Go.Fg.X
namespace Go.Fg.X
open Go.Proofs Go.Fg
set_option maxRecDepth 100000
set_option maxHeartbeats 4000000
set_option linter.unusedSimpArgs false
set_option linter.unusedVariables false
theorem hnewR_ok (h : List Ob) : RFn Tryz.prog 5 h [] (fun d g => d = .ptr (h.length + 1) 0 0 0 ∧ g = [mapOb .i64 0 [], ⟨.one, 0, 1, 1, fun _ => [.mref h.length 0]⟩]) :=
  (hnew_ok (h.map Ob.ro)).mono fun d h' ⟨h1, h2⟩ => ⟨_, h2, by simpa using h1, by simp⟩
def fiftyC : Nc := ⟨65536, 0, 65536⟩
def fiftyE : Ev := ⟨0, true, false, 10, 0, 3, 0, 50, 0, 0, 0, 0⟩
theorem fifty_d : delV 1 100 65536 0 65536 50 = 150 := by decide +kernel
theorem fifty_l : latV 1 100 65536 0 65536 [fiftyE] 3 = 160 := by decide +kernel
theorem fifty_r : roomV 2 [] = 32768 ∧ fitsE 2 [] = 0 ∧ fitsE 1 [fiftyC] = 0 := by decide +kernel
theorem fifty_ok : AFn Tryz.prog 4 [] (Ret (dbool true)) := by
  have hd := delay_ok 1 100 65536 0 65536 50 (by decide) (by decide) (by decide) (by decide) (by decide)
  rw [fifty_d] at hd
  have hl := latest_ok 1 100 65536 0 65536 [fiftyE] 3 0 (by decide) (by decide) (by decide) (by decide) (by
    intro e he
    obtain rfl := List.mem_singleton.1 he
    exact ⟨rfl, rfl, rfl, rfl, rfl, rfl, rfl, rfl, rfl, rfl⟩) (by decide) (by decide) rfl rfl
  rw [show [fiftyE].take (0 + 1) = [fiftyE] from rfl, fifty_l] at hl
  refine AFn_hxk 0 cx_ok 200 Tryz.func4 rfl Tryz.ntmps4 Tryz.results4 rfl fun base w hb => ?_
  simp only [go_sem, Nat.reduceAdd, Nat.reduceSub, Nat.reduceMul, Nat.reduceBEq, Nat.reduceLT, Nat.reduceLeDiff, Nat.reduceEqDiff, Int.reduceToNat, Int.reduceLE, Int.reduceLT, Int.reduceAdd, Int.reduceSub, Int.reduceNeg, Int.reduceBEq, Int.reduceBNe, Nat.reduceBNe, Nat.reduceDiv, Nat.reduceMod]
  refine kont_call hb fn14 rfl ?_ hd (Ret.flat rfl) rfl fun d h hR => ?_
  · simp only [go_sem, Nat.reduceAdd, Nat.reduceSub, Nat.reduceMul, Nat.reduceBEq, Nat.reduceLT, Nat.reduceLeDiff, Nat.reduceEqDiff, Int.reduceToNat, Int.reduceLE, Int.reduceLT, Int.reduceAdd, Int.reduceSub, Int.reduceNeg, Int.reduceBEq, Int.reduceBNe, Nat.reduceBNe, Nat.reduceDiv, Nat.reduceMod]
    exact ⟨rfl, rfl⟩
  obtain ⟨rfl, rfl⟩ := hR
  refine kont_of_hx cx_ok hb 200 ?_
  simp only [go_sem, Nat.reduceAdd, Nat.reduceSub, Nat.reduceMul, Nat.reduceBEq, Nat.reduceLT, Nat.reduceLeDiff, Nat.reduceEqDiff, Int.reduceToNat, Int.reduceLE, Int.reduceLT, Int.reduceAdd, Int.reduceSub, Int.reduceNeg, Int.reduceBEq, Int.reduceBNe, Nat.reduceBNe, Nat.reduceDiv, Nat.reduceMod]
  refine kont_call hb fn15 rfl ?_ hl (Ret.flat rfl) rfl fun d h hR => ?_
  · simp only [go_sem, Nat.reduceAdd, Nat.reduceSub, Nat.reduceMul, Nat.reduceBEq, Nat.reduceLT, Nat.reduceLeDiff, Nat.reduceEqDiff, Int.reduceToNat, Int.reduceLE, Int.reduceLT, Int.reduceAdd, Int.reduceSub, Int.reduceNeg, Int.reduceBEq, Int.reduceBNe, Nat.reduceBNe, Nat.reduceDiv, Nat.reduceMod]
    refine ⟨rfl, fun i hi => ?_⟩
    obtain rfl : i = 0 := by omega
    rfl
  obtain ⟨rfl, rfl⟩ := hR
  refine kont_of_hx cx_ok hb 200 ?_
  simp only [go_sem, Nat.reduceAdd, Nat.reduceSub, Nat.reduceMul, Nat.reduceBEq, Nat.reduceLT, Nat.reduceLeDiff, Nat.reduceEqDiff, Int.reduceToNat, Int.reduceLE, Int.reduceLT, Int.reduceAdd, Int.reduceSub, Int.reduceNeg, Int.reduceBEq, Int.reduceBNe, Nat.reduceBNe, Nat.reduceDiv, Nat.reduceMod]
  refine kont_callR hb fn5 rfl ?_ (hnewR_ok _) rfl fun d h hR => ?_
  · simp only [go_sem, Nat.reduceAdd, Nat.reduceSub, Nat.reduceMul, Nat.reduceBEq, Nat.reduceLT, Nat.reduceLeDiff, Nat.reduceEqDiff, Int.reduceToNat, Int.reduceLE, Int.reduceLT, Int.reduceAdd, Int.reduceSub, Int.reduceNeg, Int.reduceBEq, Int.reduceBNe, Nat.reduceBNe, Nat.reduceDiv, Nat.reduceMod]
  obtain ⟨rfl, rfl⟩ := hR
  refine kont_of_hx cx_ok hb 200 ?_
  simp only [go_sem, Nat.reduceAdd, Nat.reduceSub, Nat.reduceMul, Nat.reduceBEq, Nat.reduceLT, Nat.reduceLeDiff, Nat.reduceEqDiff, Int.reduceToNat, Int.reduceLE, Int.reduceLT, Int.reduceAdd, Int.reduceSub, Int.reduceNeg, Int.reduceBEq, Int.reduceBNe, Nat.reduceBNe, Nat.reduceDiv, Nat.reduceMod]
  have hr := fun h t m c (T : TreeIs [] []) ht hm => proom0_ok h t m c T ht hm 2
  rw [fifty_r.1, fifty_r.2.1] at hr
  refine kont_callR0 hb fn11 rfl ?_ (hr _ 4 3 0 TreeIs.nil rfl rfl) rfl fun d hR => ?_
  · simp only [go_sem, Nat.reduceAdd, Nat.reduceSub, Nat.reduceMul, Nat.reduceBEq, Nat.reduceLT, Nat.reduceLeDiff, Nat.reduceEqDiff, Int.reduceToNat, Int.reduceLE, Int.reduceLT, Int.reduceAdd, Int.reduceSub, Int.reduceNeg, Int.reduceBEq, Int.reduceBNe, Nat.reduceBNe, Nat.reduceDiv, Nat.reduceMod]
  subst hR
  refine kont_of_hx cx_ok hb 200 ?_
  simp only [go_sem, Nat.reduceAdd, Nat.reduceSub, Nat.reduceMul, Nat.reduceBEq, Nat.reduceLT, Nat.reduceLeDiff, Nat.reduceEqDiff, Int.reduceToNat, Int.reduceLE, Int.reduceLT, Int.reduceAdd, Int.reduceSub, Int.reduceNeg, Int.reduceBEq, Int.reduceBNe, Nat.reduceBNe, Nat.reduceDiv, Nat.reduceMod]
  have c1 : (((150 : Nat) : Int) == 150) = true := by decide
  have c2 : (((160 : Nat) : Int) == 160) = true := by decide
  have c3 : (((32768 : Nat) : Int) == 32768) = true := by decide
  refine kont_hax cx_ok hb 200 mixed [(0, true), (1, true), (2, true), (3, true), (4, true), (5, true), (6, true), (7, true), (8, true), (9, true), (10, true), (11, true), (12, true), (13, true), (14, true), (15, true), (16, true), (17, true), (18, true), (19, true), (20, true), (21, true), (22, true), (24, true), (23, false), (25, false), (26, true), (27, true)] (by kernel_rfl) (by kernel_rfl) ?_
  simp only [go_sem, Nat.reduceAdd, Nat.reduceSub, Nat.reduceMul, Nat.reduceBEq, Nat.reduceLT, Nat.reduceLeDiff, Nat.reduceEqDiff, Int.reduceToNat, Int.reduceLE, Int.reduceLT, Int.reduceAdd, Int.reduceSub, Int.reduceNeg, Int.reduceBEq, Int.reduceBNe, Nat.reduceBNe, Nat.reduceDiv, Nat.reduceMod, c1, c2, c3]
  refine AX_callR hb fn5 rfl ?_ (hnewR_ok _) rfl fun d h hR => ?_
  · simp only [go_sem, Nat.reduceAdd, Nat.reduceSub, Nat.reduceMul, Nat.reduceBEq, Nat.reduceLT, Nat.reduceLeDiff, Nat.reduceEqDiff, Int.reduceToNat, Int.reduceLE, Int.reduceLT, Int.reduceAdd, Int.reduceSub, Int.reduceNeg, Int.reduceBEq, Int.reduceBNe, Nat.reduceBNe, Nat.reduceDiv, Nat.reduceMod, c1]
  obtain ⟨rfl, rfl⟩ := hR
  refine AX_of_hax cx_ok hb ?_
  simp only [go_sem, Nat.reduceAdd, Nat.reduceSub, Nat.reduceMul, Nat.reduceBEq, Nat.reduceLT, Nat.reduceLeDiff, Nat.reduceEqDiff, Int.reduceToNat, Int.reduceLE, Int.reduceLT, Int.reduceAdd, Int.reduceSub, Int.reduceNeg, Int.reduceBEq, Int.reduceBNe, Nat.reduceBNe, Nat.reduceDiv, Nat.reduceMod, c1]
  have ha := fun h t m c (T : TreeIs [] []) ht hm => padmits0_ok h t m c T ht hm 1 fiftyC ⟨by decide, by decide, by decide⟩ (by decide)
  rw [fifty_r.2.2] at ha
  refine AX_callR0 hb fn12 rfl ?_ (ha _ 6 5 0 TreeIs.nil rfl rfl) rfl fun d hR => ?_
  · simp only [go_sem, Nat.reduceAdd, Nat.reduceSub, Nat.reduceMul, Nat.reduceBEq, Nat.reduceLT, Nat.reduceLeDiff, Nat.reduceEqDiff, Int.reduceToNat, Int.reduceLE, Int.reduceLT, Int.reduceAdd, Int.reduceSub, Int.reduceNeg, Int.reduceBEq, Int.reduceBNe, Nat.reduceBNe, Nat.reduceDiv, Nat.reduceMod]
    rfl
  subst hR
  refine AX_of_hax cx_ok hb ?_
  simp only [go_sem, Nat.reduceAdd, Nat.reduceSub, Nat.reduceMul, Nat.reduceBEq, Nat.reduceLT, Nat.reduceLeDiff, Nat.reduceEqDiff, Int.reduceToNat, Int.reduceLE, Int.reduceLT, Int.reduceAdd, Int.reduceSub, Int.reduceNeg, Int.reduceBEq, Int.reduceBNe, Nat.reduceBNe, Nat.reduceDiv, Nat.reduceMod]

end Go.Fg.X
/- PlanRoom: walked. Conditions: the arguments are Go values. -/
namespace Go.Fg.X
open Go.Proofs Go.Fg
set_option maxRecDepth 100000
set_option maxHeartbeats 16000000
set_option linter.unusedSimpArgs false
set_option linter.unusedVariables false
theorem one_mem {L : List Kls} (R : Rising L) {x : Chg} {c : Kls} (h : c ∈ oneRL L x) : c ∈ L ∨ c = x.cls := by
  unfold oneRL at h
  split at h
  · split at h
    · exact .inl (List.mem_filter.1 h).1
    · rw [putOut_eq R] at h
      rcases mem_put R _ h with h1 | h1
      · exact .inr h1
      · exact .inl h1
  · exact .inl h
theorem treeF_all {base : List Chg} {p : Kls → Prop} (hp : ∀ a ∈ base, p a.cls) (hk : ∀ a ∈ base, a.cls.Nn) : ∀ i, i ≤ base.length → ∀ c ∈ treeF base i, p c
  | 0, _ => by simp [treeF]
  | i + 1, h => by
    have hi : i < base.length := by omega
    intro c hc
    rw [treeF_succ base i hi] at hc
    rcases one_mem (treeF_inv hk i (by omega)).tree.rising hc with h1 | h1
    · exact treeF_all hp hk i (by omega) c h1
    · rw [h1]
      refine hp _ ?_
      rw [List.getD_eq_getElem?_getD, List.getElem?_eq_getElem hi]
      exact List.getElem_mem hi
theorem ncv_lt {c : Cv} (h : Cv.Ok c) : (ncv c).Lt := by
  have h1 := wf_u64 h.1
  have h2 := wf_u64 h.2.1
  have h3 := wf_u64 h.2.2.1
  refine ⟨?_, ?_, ?_⟩ <;> (simp only [ncv]; omega)
theorem reals_lt {L : List Kls} (h : ∀ c ∈ L, Cv.Ok c.rt) : ∀ c ∈ realsF L, c.Lt := by
  intro c hc
  unfold realsF at hc
  obtain ⟨x, hx, rfl⟩ := List.mem_map.1 hc
  exact ncv_lt (h x (List.mem_filter.1 hx).1)
structure PrI (bs : List Chg) (n : Int) (z : Nc) (i : Nat) (s : St) : Prop where
  ex : ∃ c es H, H[0]? = some ⟨.one, 0, 3, 1, fun _ => z.cells⟩ ∧ H[2]? = some ⟨.one, 0, 1, 1, fun _ => [.mref 1 0]⟩ ∧ H[1]? = some (mapOb .i64 c es) ∧ TreeIs es (treeF bs i) ∧
    s = ⟨[(1, dint n), (5, .ptr 0 0 0 0), (7, .ptr 2 0 0 0), (8, kls (treeF bs i)), (22, chgs bs), (23, dint bs.length), (24, dint i)], H⟩
theorem planRoom_ok (bs : List Chg) (n : Int) (z : Nc) (hz : z.Lt) (hk : ∀ a ∈ bs, Chg.Ok a) : AFn Tryz.prog 3 [chgs bs, dint n, dnc z] (Ret (dbool true)) := by
  have hnn : ∀ a ∈ bs, a.cls.Nn := fun a ha => chg_nn (hk a ha)
  have hrt : ∀ i, i ≤ bs.length → ∀ c ∈ treeF bs i, Cv.Ok c.rt := treeF_all (p := fun c => Cv.Ok c.rt) (fun a ha => (hk a ha).2.1.2.2.2.1) hnn
  by_cases h80 : bs.length > 60
  · have h80' : decide (((bs.length : Nat) : Int) > 60) = true := by simp; omega
    refine AFn_hxk 0 cx_ok 200 Tryz.func3 rfl Tryz.ntmps3 Tryz.results3 rfl fun base w hb => ?_
    simp only [go_sem, simprocAttr]
    simp only [h80', go_sem, simprocAttr]
    refine kont_call hb fn4 rfl ?_ fifty_ok (Ret.flat rfl) rfl fun d h hR => ?_
    · simp only [go_sem, simprocAttr]
    obtain ⟨rfl, rfl⟩ := hR
    refine kont_of_hx cx_ok hb 200 ?_
    simp only [go_sem, simprocAttr]
  · have h80' : decide (((bs.length : Nat) : Int) > 60) = false := by simp; omega
    refine AFn_hxk 0 cx_ok 200 Tryz.func3 rfl Tryz.ntmps3 Tryz.results3 rfl fun base w hb => ?_
    simp only [go_sem, simprocAttr]
    simp only [h80', go_sem, simprocAttr]
    refine kont_callH hb fn5 rfl ?_ (hnew_ok _) rfl fun d h hR => ?_
    · simp only [go_sem, simprocAttr]
    obtain ⟨rfl, rfl⟩ := hR
    refine kont_of_hx cx_ok hb 200 ?_
    simp only [go_sem, simprocAttr]
    refine kont_for (PrI bs n z) bs.length (s0 := ⟨[(1, dint n), (5, .ptr 0 0 0 0), (7, .ptr 2 0 0 0), (8, kls []), (22, chgs bs), (23, dint bs.length), (24, dint 0)], [⟨.one, 0, 3, 1, fun _ => z.cells⟩, mapOb .i64 0 [], ⟨.one, 0, 1, 1, fun _ => [.mref 1 0]⟩]⟩)
      (Weak.tell ⟨by simp only [go_sem, simprocAttr, frTell], by simp only [go_sem, simprocAttr, obsTell]⟩) ⟨0, [], _, rfl, rfl, rfl, TreeIs.nil, rfl⟩ ?_
    rintro i s hi ⟨c, es, H, hx0, ht, hm, T, rfl⟩
    have I := treeF_inv hnn i hi
    have hlen := I.len
    have ht_l := hlt ht
    have hm_l := hlt hm
    have hx0_l := hlt hx0
    have hwr := wrap_succ (show i < 4611686018427387904 by omega)
    refine kont_of_hx cx_ok hb 200 ?_
    simp only [go_sem, simprocAttr, hgetA, hgetL, hgetLk, hsetA, hsetL, hsetLk, List.length_append, List.length_set, List.append_assoc, List.set_set]
    first | refine hite_lt hi (fun hk1 => ?_) (fun hk1 => ?_) | refine hite_ltI hi (fun hk1 => ?_) (fun hk1 => ?_)
    · have hstep := treeF_succ bs i hk1
      obtain ⟨L, hL⟩ : ∃ L, L = treeF bs i := ⟨_, rfl⟩
      obtain ⟨x, hx⟩ : ∃ x, x = bs.getD i default := ⟨_, rfl⟩
      have hxn : x.cls.Nn := hnn x (by rw [hx, List.getD_eq_getElem?_getD, List.getElem?_eq_getElem hk1]; exact List.getElem_mem hk1)
      rw [← hL] at T I hlen hstep ⊢
      rw [← hx] at hstep
      have hl6 : L.length < 1000000 := by omega
      simp only [go_sem, simprocAttr, hgetA, hgetL, hgetLk, hsetA, hsetL, hsetLk, List.length_append, List.length_set, List.append_assoc, List.set_set, hk1, ← hx]
      obtain ⟨B, hB⟩ : ∃ B : Ob, B = ⟨.one, 0, 15, 1, fun _ => x.cells⟩ := ⟨_, rfl⟩
      have hB2 := hB
      simp only [go_sem, simprocAttr] at hB2
      rw [← hB2]
      have htB : (H ++ [B])[2]? = some ⟨.one, 0, 1, 1, fun _ => [.mref 1 0]⟩ := by rw [hgetA ht_l]; exact ht
      have hmB : (H ++ [B])[1]? = some (mapOb .i64 c es) := by rw [hgetA hm_l]; exact hm
      have hop := I.tree
      have hput := putOut_eq I.tree.rising x.cls
      by_cases h1 : x.kind = 1
      · simp only [go_sem, simprocAttr, hgetA, hgetL, hgetLk, hsetA, hsetL, hsetLk, List.length_append, List.length_set, List.append_assoc, List.set_set, beqT h1, hB]
        rw [← hB2]
        refine kont_callH hb fn6 rfl ?_ (hadd_ok (H ++ [B]) 2 1 c T htB hmB x.cls 16 (by decide) (I.tree.ends _)) rfl fun d h' hR => ?_
        · simp only [go_sem, simprocAttr]
        obtain ⟨rfl, hA⟩ := hR
        rw [add_same I] at hA
        have hT : TreeAt (H ++ [B]) 2 1 (oneRL L x) h' := by
          rw [show oneRL L x = if addRE L x.cls = 0 then putC L x.cls else L by simp [oneRL, oneRE, h1, hput]]; exact hA
        obtain ⟨⟨c', es', ht', hm', T'⟩, hlen', hold⟩ := hT
        have hb8 : h'[H.length]? = some ⟨.one, 0, 15, 1, fun _ => x.cells⟩ := by rw [hold _ (by simp) (by omega), hgetL rfl, hB]; rfl
        have hb8_l := hlt hb8
        have hx0' : h'[0]? = some ⟨.one, 0, 3, 1, fun _ => z.cells⟩ := by rw [hold _ (by simp) (by omega), hgetA hx0_l, hx0]
        refine kont_of_hx cx_ok hb 200 ?_
        simp only [go_sem, simprocAttr, hgetA, hgetL, hgetLk, hsetA, hsetL, hsetLk, List.length_append, List.length_set, List.append_assoc, List.set_set, hb8, hb8_l, Go.undef]
        refine kont_callM hb [] fn9 rfl ?_ (rtone_ok L x hl6 I.nn hxn) rfl fun d h hR => ?_
        · simp only [go_sem, simprocAttr, hwr]
        obtain ⟨rfl, rfl⟩ := hR
        simp only [go_sem, simprocAttr, hwr]
        refine kont_of_hx cx_ok hb 200 ?_
        simp only [go_sem, simprocAttr, hwr]
        refine ⟨hk1, _, Weak.frame (fr' := [(1, dint n), (5, .ptr 0 0 0 0), (7, .ptr 2 0 0 0), (8, kls (oneRL L x)), (22, chgs bs), (23, dint bs.length), (24, dint (i + 1 : Nat))]) (by simp only [go_sem, simprocAttr]), ⟨c', es', h', hx0', ht', hm', by rw [hstep]; exact T', by rw [hstep]⟩⟩
      by_cases h2 : x.kind = 2
      · simp only [go_sem, simprocAttr, hgetA, hgetL, hgetLk, hsetA, hsetL, hsetLk, List.length_append, List.length_set, List.append_assoc, List.set_set, beqF h1, beqT h2, hB]
        rw [← hB2]
        refine kont_callH hb fn7 rfl ?_ (hdel_ok (H ++ [B]) 2 1 c T hl6 htB hmB x.cls.iD) rfl fun d h' hR => ?_
        · simp only [go_sem, simprocAttr]
        obtain ⟨rfl, hA⟩ := hR
        rw [del_same] at hA
        have hT : TreeAt (H ++ [B]) 2 1 (oneRL L x) h' := by
          rw [show oneRL L x = if delRE L x.cls.iD = 0 then delC L x.cls.iD else L by simp [oneRL, oneRE, h2]]; exact hA
        obtain ⟨⟨c', es', ht', hm', T'⟩, hlen', hold⟩ := hT
        have hb8 : h'[H.length]? = some ⟨.one, 0, 15, 1, fun _ => x.cells⟩ := by rw [hold _ (by simp) (by omega), hgetL rfl, hB]; rfl
        have hb8_l := hlt hb8
        have hx0' : h'[0]? = some ⟨.one, 0, 3, 1, fun _ => z.cells⟩ := by rw [hold _ (by simp) (by omega), hgetA hx0_l, hx0]
        refine kont_of_hx cx_ok hb 200 ?_
        simp only [go_sem, simprocAttr, hgetA, hgetL, hgetLk, hsetA, hsetL, hsetLk, List.length_append, List.length_set, List.append_assoc, List.set_set, hb8, hb8_l, Go.undef]
        refine kont_callM hb [] fn9 rfl ?_ (rtone_ok L x hl6 I.nn hxn) rfl fun d h hR => ?_
        · simp only [go_sem, simprocAttr, hwr]
        obtain ⟨rfl, rfl⟩ := hR
        simp only [go_sem, simprocAttr, hwr]
        refine kont_of_hx cx_ok hb 200 ?_
        simp only [go_sem, simprocAttr, hwr]
        refine ⟨hk1, _, Weak.frame (fr' := [(1, dint n), (5, .ptr 0 0 0 0), (7, .ptr 2 0 0 0), (8, kls (oneRL L x)), (22, chgs bs), (23, dint bs.length), (24, dint (i + 1 : Nat))]) (by simp only [go_sem, simprocAttr]), ⟨c', es', h', hx0', ht', hm', by rw [hstep]; exact T', by rw [hstep]⟩⟩
      by_cases h3 : x.kind = 3
      · simp only [go_sem, simprocAttr, hgetA, hgetL, hgetLk, hsetA, hsetL, hsetLk, List.length_append, List.length_set, List.append_assoc, List.set_set, beqF h1, beqF h2, beqT h3, hB]
        rw [← hB2]
        refine kont_callH hb fn8 rfl ?_ (hset_ok (H ++ [B]) 2 1 c T hl6 htB hmB x.cls) rfl fun d h' hR => ?_
        · simp only [go_sem, simprocAttr]
        obtain ⟨rfl, hA⟩ := hR
        rw [set_same I] at hA
        have hT : TreeAt (H ++ [B]) 2 1 (oneRL L x) h' := by
          rw [show oneRL L x = if setRE L x.cls = 0 then putC L x.cls else L by simp [oneRL, oneRE, h3, hput]]; exact hA
        obtain ⟨⟨c', es', ht', hm', T'⟩, hlen', hold⟩ := hT
        have hb8 : h'[H.length]? = some ⟨.one, 0, 15, 1, fun _ => x.cells⟩ := by rw [hold _ (by simp) (by omega), hgetL rfl, hB]; rfl
        have hb8_l := hlt hb8
        have hx0' : h'[0]? = some ⟨.one, 0, 3, 1, fun _ => z.cells⟩ := by rw [hold _ (by simp) (by omega), hgetA hx0_l, hx0]
        refine kont_of_hx cx_ok hb 200 ?_
        simp only [go_sem, simprocAttr, hgetA, hgetL, hgetLk, hsetA, hsetL, hsetLk, List.length_append, List.length_set, List.append_assoc, List.set_set, hb8, hb8_l, Go.undef]
        refine kont_callM hb [] fn9 rfl ?_ (rtone_ok L x hl6 I.nn hxn) rfl fun d h hR => ?_
        · simp only [go_sem, simprocAttr, hwr]
        obtain ⟨rfl, rfl⟩ := hR
        simp only [go_sem, simprocAttr, hwr]
        refine kont_of_hx cx_ok hb 200 ?_
        simp only [go_sem, simprocAttr, hwr]
        refine ⟨hk1, _, Weak.frame (fr' := [(1, dint n), (5, .ptr 0 0 0 0), (7, .ptr 2 0 0 0), (8, kls (oneRL L x)), (22, chgs bs), (23, dint bs.length), (24, dint (i + 1 : Nat))]) (by simp only [go_sem, simprocAttr]), ⟨c', es', h', hx0', ht', hm', by rw [hstep]; exact T', by rw [hstep]⟩⟩
      · obtain ⟨h', hh⟩ : ∃ h', h' = H ++ [B] := ⟨_, rfl⟩
        have hT : TreeAt (H ++ [B]) 2 1 (oneRL L x) h' := by
          have e : oneRL L x = L := by rw [oneRL, if_neg]; rw [oneRE, if_neg h1, if_neg h2, if_neg h3]; decide
          rw [e, hh]
          have := TreeAt.same (H ++ [B]) 2 1 c htB hmB T []
          rwa [List.append_nil] at this
        simp only [go_sem, simprocAttr, beqF h1, beqF h2, beqF h3]
        rw [← hh]
        obtain ⟨⟨c', es', ht', hm', T'⟩, hlen', hold⟩ := hT
        have hb8 : h'[H.length]? = some ⟨.one, 0, 15, 1, fun _ => x.cells⟩ := by rw [hold _ (by simp) (by omega), hgetL rfl, hB]; rfl
        have hb8_l := hlt hb8
        have hx0' : h'[0]? = some ⟨.one, 0, 3, 1, fun _ => z.cells⟩ := by rw [hold _ (by simp) (by omega), hgetA hx0_l, hx0]
        simp only [go_sem, simprocAttr, hgetA, hgetL, hgetLk, hsetA, hsetL, hsetLk, List.length_append, List.length_set, List.append_assoc, List.set_set, hb8, hb8_l, Go.undef]
        refine kont_callM hb [] fn9 rfl ?_ (rtone_ok L x hl6 I.nn hxn) rfl fun d h hR => ?_
        · simp only [go_sem, simprocAttr, hwr]
        obtain ⟨rfl, rfl⟩ := hR
        simp only [go_sem, simprocAttr, hwr]
        refine kont_of_hx cx_ok hb 200 ?_
        simp only [go_sem, simprocAttr, hwr]
        refine ⟨hk1, _, Weak.frame (fr' := [(1, dint n), (5, .ptr 0 0 0 0), (7, .ptr 2 0 0 0), (8, kls (oneRL L x)), (22, chgs bs), (23, dint bs.length), (24, dint (i + 1 : Nat))]) (by simp only [go_sem, simprocAttr]), ⟨c', es', h', hx0', ht', hm', by rw [hstep]; exact T', by rw [hstep]⟩⟩
    · subst hk1
      obtain ⟨L, hL⟩ : ∃ L, L = treeF bs bs.length := ⟨_, rfl⟩
      have hrt2 := hrt bs.length (Nat.le_refl _)
      rw [← hL] at T I hlen hrt2 ⊢
      have hl6 : L.length < 1000000 := by omega
      have hRlt := reals_lt hrt2
      have hRl : (realsF L).length < 1000000 := by have := realsF_len L; omega
      have hrm := fun G h2 h1 => proom_ok G 2 1 c T hl6 h2 h1 I.nn hRlt n
      have had := fun G h2 h1 => padmits_ok G 2 1 c T hl6 h2 h1 I.nn hRlt n z hz
      have hfi := rfits_ok n (realsF L) (by omega) hRlt
      have hfz := rfits_ok n (realsF L ++ [z]) (by simp; omega) (fun c hc => by
        rcases List.mem_append.1 hc with h1 | h1
        · exact hRlt c h1
        · rw [List.mem_singleton.1 h1]; exact hz)
      have hrr := rreals0_ok L hl6 I.nn
      obtain ⟨R, hRe⟩ : ∃ R, R = realsF L := ⟨_, rfl⟩
      rw [← hRe] at hRl hrm had hfi hfz hrr hRlt
      have hb4 : R.length ≤ 4294967295 := by omega
      refine kont_of_hx cx_ok hb 200 ?_
      simp only [go_sem, simprocAttr]
      refine kont_call hb fn10 rfl ?_ hrr (RetS.flat (fun a => rfl)) rfl fun d h' hR => ?_
      · simp only [go_sem, simprocAttr]
      obtain ⟨g, off, row, rfl, rfl, hr⟩ := hR
      obtain ⟨row2, hrow2⟩ : ∃ r : Nat → List D, r = fun i => shiftL H.length (row i) := ⟨_, rfl⟩
      have hr2 : ∀ i, i < R.length → row2 (off + i) = (R.getD i default).cells := fun i hi => by
        have := hr.at_ i hi
        rw [hrow2]
        dsimp only
        rw [this]; rfl
      have hall : ∀ i, i < off + R.length → ∃ a : Nc, row2 i = a.cells := fun i hi => by
        obtain ⟨a, ha⟩ := hr.all i hi
        refine ⟨a, ?_⟩
        rw [hrow2]
        dsimp only
        rw [ha]; rfl
      refine kont_of_hx cx_ok hb 200 ?_
      simp only [go_sem, simprocAttr, hgetA, hgetL, hgetLk, hsetA, hsetL, hsetLk, List.length_append, List.length_set, List.append_assoc, List.set_set]
      rw [← hrow2]
      obtain ⟨G, hG⟩ : ∃ G : List Ob, G = H ++ [⟨.arr, g, 3, off + R.length, row2⟩] := ⟨_, rfl⟩
      have hG0 : G[0]? = some ⟨.one, 0, 3, 1, fun _ => z.cells⟩ := by rw [hG, hgetA hx0_l]; exact hx0
      have hG1 : G[1]? = some (mapOb .i64 c es) := by rw [hG, hgetA hm_l]; exact hm
      have hG2 : G[2]? = some ⟨.one, 0, 1, 1, fun _ => [.mref 1 0]⟩ := by rw [hG, hgetA ht_l]; exact ht
      have hGr : G[H.length]? = some ⟨.arr, g, 3, off + R.length, row2⟩ := by rw [hG, hgetL rfl]; rfl
      rw [← hG]
      have hG0_l := hlt hG0
      have hGr_l := hlt hGr
      refine kont_callR0 hb fn11 rfl ?_ (hrm G (ro_get hG2) (ro_get hG1)) rfl fun d hd => ?_
      · simp only [go_sem, simprocAttr]
      subst hd
      refine kont_of_hx cx_ok hb 200 ?_
      simp only [go_sem, simprocAttr, hgetA, hgetL, hgetLk, hsetA, hsetL, hsetLk, List.length_append, List.length_set, List.append_assoc, List.set_set, hG0, hG0_l]
      refine kont_callR0 hb fn12 rfl ?_ (had G (ro_get hG2) (ro_get hG1)) rfl fun d hd => ?_
      · simp only [go_sem, simprocAttr]
      subst hd
      refine kont_of_hx cx_ok hb 200 ?_
      simp only [go_sem, simprocAttr, hgetA, hgetL, hgetLk, hsetA, hsetL, hsetLk, List.length_append, List.length_set, List.append_assoc, List.set_set, hG0, hG0_l]
      have f1 : (fitsW n R != fitsW n R) = false := by simp
      have f2 : ((fitsW n (R ++ [z]) == 0) != (fitsW n (R ++ [z]) == 0)) = false := by simp
      refine kont_call hb fn13 rfl ?_ hfi (Ret.flat rfl) rfl fun d h hR => ?_
      · simp only [go_sem, simprocAttr, hgetA, hgetL, hgetLk, hsetA, hsetL, hsetLk, List.length_append, List.length_set, List.append_assoc, List.set_set, hGr, hGr_l]
        exact ⟨fun i hi => by rw [hr2 i hi]; rfl, hr2⟩
      obtain ⟨rfl, rfl⟩ := hR
      refine kont_of_hx cx_ok hb 200 ?_
      simp only [go_sem, simprocAttr, hgetA, hgetL, hgetLk, hsetA, hsetL, hsetLk, List.length_append, List.length_set, List.append_assoc, List.set_set, hG0, hG0_l, hGr, hGr_l, f1, f2, hb4, Go.undef]
      obtain ⟨G2, hG2e⟩ : ∃ G2 : List Ob, G2 = G.set H.length ⟨.arr, g + 1, 3, R.length + 1, appRow R.length off row2 fun _ => z.cells⟩ := ⟨_, rfl⟩
      have hH3 : 2 < H.length := ht_l
      have hX0 : G2[0]? = some ⟨.one, 0, 3, 1, fun _ => z.cells⟩ := by rw [hG2e, hgetN (by omega)]; exact hG0
      have hXr : G2[H.length]? = some ⟨.arr, g + 1, 3, R.length + 1, appRow R.length off row2 fun _ => z.cells⟩ := by rw [hG2e, hgetS hGr_l]
      simp only [go_sem, simprocAttr] at hG2e
      rw [← hG2e]
      have hX0_l := hlt hX0
      have hXr_l := hlt hXr
      have hr3 : ∀ i, i < R.length + 1 → appRow R.length off row2 (fun _ => z.cells) i = ((R ++ [z]).getD i default).cells := fun i hi => by
        by_cases h1 : i < R.length
        · rw [appRow_lt h1, hr2 i h1, List.getD_eq_getElem?_getD, List.getD_eq_getElem?_getD, List.getElem?_append_left h1]
        · obtain rfl : i = R.length := by omega
          rw [appRow_ge (Nat.le_refl _), List.getD_eq_getElem?_getD, List.getElem?_append_right (Nat.le_refl _), Nat.sub_self]; rfl
      refine kont_call hb fn13 rfl ?_ hfz (Ret.flat rfl) rfl fun d h hR => ?_
      · simp only [go_sem, simprocAttr, hgetA, hgetL, hgetLk, hsetA, hsetL, hsetLk, List.length_append, List.length_set, List.append_assoc, List.set_set, hXr, hXr_l, List.length_append, List.length_singleton]
        have hr4 := hr3
        simp only [go_sem, simprocAttr] at hr4
        exact ⟨fun i hi => by rw [hr4 i hi]; rfl, hr4⟩
      obtain ⟨rfl, rfl⟩ := hR
      refine kont_of_hx cx_ok hb 200 ?_
      simp only [go_sem, simprocAttr, hgetA, hgetL, hgetLk, hsetA, hsetL, hsetLk, List.length_append, List.length_set, List.append_assoc, List.set_set, hX0, hX0_l, f2, Go.undef]
      have q7 : ((7 : Int) == 7) = true := rfl
      by_cases h1 : fitsW n R = 0
      · have b1 : (fitsW n R == 0) = true := by simpa using h1
        by_cases h2 : z.d = 0
        · have b2 : ((z.d : Int) == 0) = true := by simp; omega
          by_cases h3 : z.a = z.b
          · have b3 : ((z.a : Int) == (z.b : Int)) = true := by simp; omega
            by_cases h4 : z.a ≤ 4294967295
            · have b4 : decide ((z.a : Int) ≤ 4294967295) = true := decide_eq_true (by omega)
              have hlf := lin_fits (t := n) (l := R) (c := z) ⟨h2, h3, h4⟩ h1
              have b5 : (fitsW n (R ++ [z]) == 0) = decide (z.a ≤ roomW n R) := by
                rw [Bool.eq_iff_iff, beq_iff_eq, decide_eq_true_eq]; exact hlf
              have b6 : (decide (z.a ≤ roomW n R) != decide (z.a ≤ roomW n R)) = false := by simp
              simp only [go_sem, simprocAttr, hgetA, hgetL, hgetLk, hsetA, hsetL, hsetLk, List.length_append, List.length_set, List.append_assoc, List.set_set, hX0, hX0_l, Go.undef, b1, b2, b3, b4, b5, b6]
              refine kont_call hb fn11 rfl ?_ (proomN_ok n) (Ret.flat rfl) rfl fun d h hR => ?_
              · simp only [go_sem, simprocAttr, hgetA, hgetL, hgetLk, hsetA, hsetL, hsetLk, List.length_append, List.length_set, List.append_assoc, List.set_set, hX0, hX0_l, Go.undef, b1, b2, b3, b4, b5, b6]
              obtain ⟨rfl, rfl⟩ := hR
              refine kont_of_hx cx_ok hb 200 ?_
              simp only [go_sem, simprocAttr, hgetA, hgetL, hgetLk, hsetA, hsetL, hsetLk, List.length_append, List.length_set, List.append_assoc, List.set_set, hX0, hX0_l, Go.undef, b1, b2, b3, b4, b5, b6]
              refine kont_call hb fn12 rfl ?_ (padmitsN_ok n z) (Ret.flat rfl) rfl fun d h hR => ?_
              · simp only [go_sem, simprocAttr, hgetA, hgetL, hgetLk, hsetA, hsetL, hsetLk, List.length_append, List.length_set, List.append_assoc, List.set_set, hX0, hX0_l, Go.undef, b1, b2, b3, b4, b5, b6]
              obtain ⟨rfl, rfl⟩ := hR
              refine kont_of_hx cx_ok hb 200 ?_
              simp only [go_sem, simprocAttr, hgetA, hgetL, hgetLk, hsetA, hsetL, hsetLk, List.length_append, List.length_set, List.append_assoc, List.set_set, hX0, hX0_l, Go.undef, b1, b2, b3, b4, b5, b6]
              refine kont_call hb fn4 rfl ?_ fifty_ok (Ret.flat rfl) rfl fun d h hR => ?_
              · simp only [go_sem, simprocAttr, hgetA, hgetL, hgetLk, hsetA, hsetL, hsetLk, List.length_append, List.length_set, List.append_assoc, List.set_set, hX0, hX0_l, Go.undef, b1, b2, b3, b4, b5, b6]
              obtain ⟨rfl, rfl⟩ := hR
              refine kont_of_hx cx_ok hb 200 ?_
              simp only [go_sem, simprocAttr, hgetA, hgetL, hgetLk, hsetA, hsetL, hsetLk, List.length_append, List.length_set, List.append_assoc, List.set_set, hX0, hX0_l, Go.undef, b1, b2, b3, b4, b5, b6]
            · have b4 : decide ((z.a : Int) ≤ 4294967295) = false := decide_eq_false (by omega)
              simp only [go_sem, simprocAttr, hgetA, hgetL, hgetLk, hsetA, hsetL, hsetLk, List.length_append, List.length_set, List.append_assoc, List.set_set, hX0, hX0_l, Go.undef, b1, b2, b3, b4]
              refine kont_call hb fn11 rfl ?_ (proomN_ok n) (Ret.flat rfl) rfl fun d h hR => ?_
              · simp only [go_sem, simprocAttr, hgetA, hgetL, hgetLk, hsetA, hsetL, hsetLk, List.length_append, List.length_set, List.append_assoc, List.set_set, hX0, hX0_l, Go.undef, b1, b2, b3, b4]
              obtain ⟨rfl, rfl⟩ := hR
              refine kont_of_hx cx_ok hb 200 ?_
              simp only [go_sem, simprocAttr, hgetA, hgetL, hgetLk, hsetA, hsetL, hsetLk, List.length_append, List.length_set, List.append_assoc, List.set_set, hX0, hX0_l, Go.undef, b1, b2, b3, b4]
              refine kont_call hb fn12 rfl ?_ (padmitsN_ok n z) (Ret.flat rfl) rfl fun d h hR => ?_
              · simp only [go_sem, simprocAttr, hgetA, hgetL, hgetLk, hsetA, hsetL, hsetLk, List.length_append, List.length_set, List.append_assoc, List.set_set, hX0, hX0_l, Go.undef, b1, b2, b3, b4]
              obtain ⟨rfl, rfl⟩ := hR
              refine kont_of_hx cx_ok hb 200 ?_
              simp only [go_sem, simprocAttr, hgetA, hgetL, hgetLk, hsetA, hsetL, hsetLk, List.length_append, List.length_set, List.append_assoc, List.set_set, hX0, hX0_l, Go.undef, b1, b2, b3, b4]
              refine kont_call hb fn4 rfl ?_ fifty_ok (Ret.flat rfl) rfl fun d h hR => ?_
              · simp only [go_sem, simprocAttr, hgetA, hgetL, hgetLk, hsetA, hsetL, hsetLk, List.length_append, List.length_set, List.append_assoc, List.set_set, hX0, hX0_l, Go.undef, b1, b2, b3, b4]
              obtain ⟨rfl, rfl⟩ := hR
              refine kont_of_hx cx_ok hb 200 ?_
              simp only [go_sem, simprocAttr, hgetA, hgetL, hgetLk, hsetA, hsetL, hsetLk, List.length_append, List.length_set, List.append_assoc, List.set_set, hX0, hX0_l, Go.undef, b1, b2, b3, b4]
          · have b3 : ((z.a : Int) == (z.b : Int)) = false := by simp; omega
            simp only [go_sem, simprocAttr, hgetA, hgetL, hgetLk, hsetA, hsetL, hsetLk, List.length_append, List.length_set, List.append_assoc, List.set_set, hX0, hX0_l, Go.undef, b1, b2, b3]
            refine kont_call hb fn11 rfl ?_ (proomN_ok n) (Ret.flat rfl) rfl fun d h hR => ?_
            · simp only [go_sem, simprocAttr, hgetA, hgetL, hgetLk, hsetA, hsetL, hsetLk, List.length_append, List.length_set, List.append_assoc, List.set_set, hX0, hX0_l, Go.undef, b1, b2, b3]
            obtain ⟨rfl, rfl⟩ := hR
            refine kont_of_hx cx_ok hb 200 ?_
            simp only [go_sem, simprocAttr, hgetA, hgetL, hgetLk, hsetA, hsetL, hsetLk, List.length_append, List.length_set, List.append_assoc, List.set_set, hX0, hX0_l, Go.undef, b1, b2, b3]
            refine kont_call hb fn12 rfl ?_ (padmitsN_ok n z) (Ret.flat rfl) rfl fun d h hR => ?_
            · simp only [go_sem, simprocAttr, hgetA, hgetL, hgetLk, hsetA, hsetL, hsetLk, List.length_append, List.length_set, List.append_assoc, List.set_set, hX0, hX0_l, Go.undef, b1, b2, b3]
            obtain ⟨rfl, rfl⟩ := hR
            refine kont_of_hx cx_ok hb 200 ?_
            simp only [go_sem, simprocAttr, hgetA, hgetL, hgetLk, hsetA, hsetL, hsetLk, List.length_append, List.length_set, List.append_assoc, List.set_set, hX0, hX0_l, Go.undef, b1, b2, b3]
            refine kont_call hb fn4 rfl ?_ fifty_ok (Ret.flat rfl) rfl fun d h hR => ?_
            · simp only [go_sem, simprocAttr, hgetA, hgetL, hgetLk, hsetA, hsetL, hsetLk, List.length_append, List.length_set, List.append_assoc, List.set_set, hX0, hX0_l, Go.undef, b1, b2, b3]
            obtain ⟨rfl, rfl⟩ := hR
            refine kont_of_hx cx_ok hb 200 ?_
            simp only [go_sem, simprocAttr, hgetA, hgetL, hgetLk, hsetA, hsetL, hsetLk, List.length_append, List.length_set, List.append_assoc, List.set_set, hX0, hX0_l, Go.undef, b1, b2, b3]
        · have b2 : ((z.d : Int) == 0) = false := by simp; omega
          simp only [go_sem, simprocAttr, hgetA, hgetL, hgetLk, hsetA, hsetL, hsetLk, List.length_append, List.length_set, List.append_assoc, List.set_set, hX0, hX0_l, Go.undef, b1, b2]
          refine kont_call hb fn11 rfl ?_ (proomN_ok n) (Ret.flat rfl) rfl fun d h hR => ?_
          · simp only [go_sem, simprocAttr, hgetA, hgetL, hgetLk, hsetA, hsetL, hsetLk, List.length_append, List.length_set, List.append_assoc, List.set_set, hX0, hX0_l, Go.undef, b1, b2]
          obtain ⟨rfl, rfl⟩ := hR
          refine kont_of_hx cx_ok hb 200 ?_
          simp only [go_sem, simprocAttr, hgetA, hgetL, hgetLk, hsetA, hsetL, hsetLk, List.length_append, List.length_set, List.append_assoc, List.set_set, hX0, hX0_l, Go.undef, b1, b2]
          refine kont_call hb fn12 rfl ?_ (padmitsN_ok n z) (Ret.flat rfl) rfl fun d h hR => ?_
          · simp only [go_sem, simprocAttr, hgetA, hgetL, hgetLk, hsetA, hsetL, hsetLk, List.length_append, List.length_set, List.append_assoc, List.set_set, hX0, hX0_l, Go.undef, b1, b2]
          obtain ⟨rfl, rfl⟩ := hR
          refine kont_of_hx cx_ok hb 200 ?_
          simp only [go_sem, simprocAttr, hgetA, hgetL, hgetLk, hsetA, hsetL, hsetLk, List.length_append, List.length_set, List.append_assoc, List.set_set, hX0, hX0_l, Go.undef, b1, b2]
          refine kont_call hb fn4 rfl ?_ fifty_ok (Ret.flat rfl) rfl fun d h hR => ?_
          · simp only [go_sem, simprocAttr, hgetA, hgetL, hgetLk, hsetA, hsetL, hsetLk, List.length_append, List.length_set, List.append_assoc, List.set_set, hX0, hX0_l, Go.undef, b1, b2]
          obtain ⟨rfl, rfl⟩ := hR
          refine kont_of_hx cx_ok hb 200 ?_
          simp only [go_sem, simprocAttr, hgetA, hgetL, hgetLk, hsetA, hsetL, hsetLk, List.length_append, List.length_set, List.append_assoc, List.set_set, hX0, hX0_l, Go.undef, b1, b2]
      · have b1 : (fitsW n R == 0) = false := by simpa using h1
        have hr0 : roomW n R = 0 := by rw [roomW, if_neg h1]
        have b2 : (((roomW n R : Nat) : Int) == 0) = true := by rw [hr0]; rfl
        simp only [go_sem, simprocAttr, hgetA, hgetL, hgetLk, hsetA, hsetL, hsetLk, List.length_append, List.length_set, List.append_assoc, List.set_set, hX0, hX0_l, Go.undef, b1, b2]
        refine kont_call hb fn11 rfl ?_ (proomN_ok n) (Ret.flat rfl) rfl fun d h hR => ?_
        · simp only [go_sem, simprocAttr, hgetA, hgetL, hgetLk, hsetA, hsetL, hsetLk, List.length_append, List.length_set, List.append_assoc, List.set_set, hX0, hX0_l, Go.undef, b1, b2]
        obtain ⟨rfl, rfl⟩ := hR
        refine kont_of_hx cx_ok hb 200 ?_
        simp only [go_sem, simprocAttr, hgetA, hgetL, hgetLk, hsetA, hsetL, hsetLk, List.length_append, List.length_set, List.append_assoc, List.set_set, hX0, hX0_l, Go.undef, b1, b2]
        refine kont_call hb fn12 rfl ?_ (padmitsN_ok n z) (Ret.flat rfl) rfl fun d h hR => ?_
        · simp only [go_sem, simprocAttr, hgetA, hgetL, hgetLk, hsetA, hsetL, hsetLk, List.length_append, List.length_set, List.append_assoc, List.set_set, hX0, hX0_l, Go.undef, b1, b2]
        obtain ⟨rfl, rfl⟩ := hR
        refine kont_of_hx cx_ok hb 200 ?_
        simp only [go_sem, simprocAttr, hgetA, hgetL, hgetLk, hsetA, hsetL, hsetLk, List.length_append, List.length_set, List.append_assoc, List.set_set, hX0, hX0_l, Go.undef, b1, b2]
        refine kont_call hb fn4 rfl ?_ fifty_ok (Ret.flat rfl) rfl fun d h hR => ?_
        · simp only [go_sem, simprocAttr, hgetA, hgetL, hgetLk, hsetA, hsetL, hsetLk, List.length_append, List.length_set, List.append_assoc, List.set_set, hX0, hX0_l, Go.undef, b1, b2]
        obtain ⟨rfl, rfl⟩ := hR
        refine kont_of_hx cx_ok hb 200 ?_
        simp only [go_sem, simprocAttr, hgetA, hgetL, hgetLk, hsetA, hsetL, hsetLk, List.length_append, List.length_set, List.append_assoc, List.set_set, hX0, hX0_l, Go.undef, b1, b2]
end Go.Fg.X
/- PlanRoom, its curve as it was read. Conditions: the arguments are Go values. -/
namespace Go.Fg.X
set_option linter.unusedSimpArgs false
set_option linter.unusedVariables false
open Go.Proofs Go.Fg
set_option maxRecDepth 100000
theorem planRoomC_ok (bs : List Chg) (n : Int) (c : Cv) (hc : Cv.Ok c) (hk : ∀ a ∈ bs, Chg.Ok a) : AFn Tryz.prog 3 [chgs bs, dint n, .agg c.cells] (Ret (dbool true)) := by
  have h := planRoom_ok bs n (ncv c) (ncv_lt hc) hk
  have e : dnc (ncv c) = .agg c.cells := by rw [dnc, ncv_cells (cv_nn hc)]
  rw [← e]
  exact h
end Go.Fg.X
