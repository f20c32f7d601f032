/- Walks of the functions that the statement reaches. No conditions: contracts and laws. -/
import Derived.Test.YtbijdpnacnnaoaaGreatXW0
import Derived.Test.YtbijdpnacnnaoaaGreatYHl
import Derived.Test.YtbijdpnacnnaoaaGreatPR2
import Derived.Test.YtbijdpnacnnaoaaGreatYH3
namespace Go.Fg.X.SP
open Go.Proofs Go.Fg
set_option maxRecDepth 100000
set_option linter.unusedSimpArgs false
set_option linter.unusedVariables false
def indexOf (l : List Int) (v : Int) : Int := if l.contains v then (l.idxOf v : Nat) else -1
theorem index_ok (l : List Int) (id : Int) (hl : l.length < 2147483648) : AFn Tryz.prog 109 [ints l, dint id] (Ret (dint (indexOf l id))) := by
  refine AFn_hxk 0 cx_ok 200 Tryz.func109 rfl Tryz.ntmps109 Tryz.results109 rfl fun base w hb => ?_
  simp only [go_sem, simprocAttr]
  refine kont_for (fun k s => (l.take k).contains id = false ∧ s = ⟨[(0, ints l), (1, dint id), (6, ints l), (7, dint l.length), (8, dint k)], []⟩) l.length (s0 := ⟨[(0, ints l), (1, dint id), (6, ints l), (7, dint l.length), (8, dint 0)], []⟩) (Weak.frame (by simp only [go_sem, simprocAttr])) ⟨by simp, rfl⟩ ?_
  rintro k s hk ⟨hno, rfl⟩
  refine kont_of_hx cx_ok hb 200 ?_
  simp only [go_sem, simprocAttr]
  refine hite_intro (fun h => ?_) (fun h => ?_)
  · have hk1 : k < l.length := by simpa using h
    have e1 := getD_take l 0 k hk1
    simp only [go_sem, simprocAttr, hk1]
    refine hite_intro (fun h2 => ?_) (fun h2 => ?_)
    · simp only [go_sem, simprocAttr]
      have h3 : l = l.take k ++ id :: l.drop (k + 1) := by
        conv => lhs; rw [← List.take_append_drop (k + 1) l, e1]
        simp at h2; simp [h2]
      have : indexOf l id = k := by
        have hc : l.contains id = true := by rw [h3]; simp
        have h4 : ¬ id ∈ l.take k := by simpa using hno
        rw [indexOf, hc]; simp only [if_true]
        rw [h3, List.idxOf_append, if_neg h4]; simp; omega
      rw [this]
    · simp only [go_sem, simprocAttr]
      refine ⟨by omega, _, Weak.frame (by simp only [go_sem, simprocAttr, wrap_succ (show k < 4611686018427387904 by omega)]), ?_, rfl⟩
      rw [e1]; simp at hno h2 ⊢; exact ⟨hno, h2⟩
  · have hk1 : k = l.length := by simp at h; omega
    simp only [go_sem, simprocAttr]
    refine kont_of_hx cx_ok hb 200 ?_
    simp only [go_sem, simprocAttr]
    subst hk1
    simp at hno
    simp [indexOf, hno]

theorem contains_ok (l : List Int) (id : Int) (hl : l.length < 2147483648) : AFn Tryz.prog 97 [ints l, dint id] (Ret (dbool (l.contains id))) := by
  refine AFn_hxk 0 cx_ok 200 Tryz.func97 rfl Tryz.ntmps97 Tryz.results97 rfl fun base w hb => ?_
  simp only [go_sem, simprocAttr]
  refine kont_call hb fn109 rfl ?_ (index_ok l id hl) (Ret.flat rfl) rfl fun d h hR => ?_
  · simp only [go_sem, simprocAttr]
  obtain ⟨rfl, rfl⟩ := hR
  refine kont_of_hx cx_ok hb 200 ?_
  simp only [go_sem, simprocAttr]
  unfold indexOf
  cases l.contains id <;> simp
  
def lenN (n : Nat) (e : Ev) (lv : List Int) : Nat := if lv.contains e.cls then (if e.inn then n + 1 else n - 1) else n
theorem length_ok (n : Nat) (e : Ev) (lv : List Int) (hl : lv.length < 2147483648) (hn : n < 2147483648) : AFn Tryz.prog 72 [dint n, .agg e.cells, ints lv] (Ret (dint (lenN n e lv))) := by
  refine AFn_hxk 0 cx_ok 200 Tryz.func72 rfl Tryz.ntmps72 Tryz.results72 rfl fun base w hb => ?_
  simp only [go_sem, simprocAttr]
  refine kont_call hb fn97 rfl ?_ (contains_ok lv e.cls hl) (Ret.flat rfl) rfl fun d h hR => ?_
  · simp only [go_sem, simprocAttr]
  obtain ⟨rfl, rfl⟩ := hR
  refine kont_of_hx cx_ok hb 200 ?_
  simp only [go_sem, simprocAttr]
  refine hite_intro (fun h => ?_) (fun h => ?_)
  · simp only [go_sem, simprocAttr]
    simp only [lenN]; simp at h; simp [h]
  · simp only [go_sem, simprocAttr]
    refine hite_intro (fun h2 => ?_) (fun h2 => ?_)
    · simp only [go_sem, simprocAttr, wrap_succ (show n < 4611686018427387904 by omega)]
      simp only [lenN]; simp at h; simp [h, h2]
    · simp only [go_sem, simprocAttr]
      rw [wrap64 (by omega) (by omega)]
      have : max ((n : Int) - 1) 0 = ((n - 1 : Nat) : Int) := by omega
      rw [this]
      simp only [lenN]; simp at h; simp [h, h2]

def lenAt (lv : List Int) (l : List Ev) : Nat → Nat
  | 0 => 0
  | k + 1 => lenN (lenAt lv l k) (l.getD k default) lv
theorem lenAt_le (lv : List Int) (l : List Ev) : ∀ k, lenAt lv l k ≤ k
  | 0 => Nat.le_refl _
  | k + 1 => by have := lenAt_le lv l k; simp only [lenAt, lenN]; split <;> (try split) <;> omega

structure Sp where
  frm : Int
  to : Int
  fst : Int
  lst : Int
  opn : Bool
instance : Inhabited Sp := ⟨⟨0, 0, 0, 0, false⟩⟩
@[go_sem] def Sp.cells (s : Sp) : List D := [.raw (.int .u64 s.frm), .raw (.int .u64 s.to), .raw (.int .i64 s.fst), .raw (.int .i64 s.lst), .raw (.bool s.opn)]
def spStep (lv : List Int) (i : Nat) (e : Ev) (n : Nat) (out : List Sp) : List Sp :=
  if n = 0 ∧ 0 < lenN n e lv then out ++ [⟨e.at_, 0, i, 0, true⟩]
  else if 0 < n ∧ lenN n e lv = 0 then out.set (out.length - 1) { out.getD (out.length - 1) default with to := e.at_, lst := i, opn := false }
  else out
def spAt (lv : List Int) (l : List Ev) : Nat → List Sp
  | 0 => []
  | k + 1 => spStep lv k (l.getD k default) (lenAt lv l k) (spAt lv l k)

theorem spAt_len (lv : List Int) (l : List Ev) : ∀ k, (spAt lv l k).length ≤ k
  | 0 => Nat.le_refl _
  | k + 1 => by have := spAt_len lv l k; simp only [spAt, spStep]; split <;> (try split) <;> simp <;> omega
theorem spAt_pos (lv : List Int) (l : List Ev) : ∀ k, 0 < lenAt lv l k → 0 < (spAt lv l k).length
  | 0, h => by simp [lenAt] at h
  | k + 1, h => by
    have := spAt_pos lv l k
    simp only [lenAt] at h
    simp only [spAt, spStep]; split <;> (try split) <;> simp <;> omega
set_option maxRecDepth 4000 in
theorem of_ok (l : List Ev) (lv : List Int) (hl : l.length < 2147483648) (hv : lv.length < 2147483648) : AFn Tryz.prog 38 [evs l, ints lv] (RetL 5 Sp.cells (spAt lv l l.length)) := by
  refine AFn_hxk 1 cx_ok 200 Tryz.func38 rfl Tryz.ntmps38 Tryz.results38 rfl fun base w hb => ?_
  simp only [go_sem, simprocAttr]
  refine kont_for (fun k s => ∃ g, s = ⟨[(1, ints lv), (5, .ref 0 g 0 (spAt lv l k).length), (6, dint (lenAt lv l k)), (11, evs l), (12, dint l.length), (13, dint k)], [⟨.arr, g, 5, (spAt lv l k).length, fun i => ((spAt lv l k).getD i default).cells⟩]⟩) l.length
    (s0 := ⟨[(1, ints lv), (5, .ref 0 0 0 0), (6, dint 0), (11, evs l), (12, dint l.length), (13, dint 0)], [⟨.arr, 0, 5, 0, fun i => (([] : List Sp).getD i default).cells⟩]⟩)
    (Weak.trans (Weak.phantom 5 5 (fun i => (([] : List Sp).getD i default).cells) rfl) (Weak.frame (by simp only [go_sem, simprocAttr]))) ⟨0, rfl⟩ ?_
  rintro k s hk ⟨g, rfl⟩
  have hle := lenAt_le lv l k
  refine kont_of_hx cx_ok hb 200 ?_
  simp only [go_sem, simprocAttr]
  refine hite_intro (fun h => ?_) (fun h => ?_)
  · have hk1 : k < l.length := by simpa using h
    simp only [go_sem, simprocAttr, hk1]
    refine kont_call hb fn72 rfl ?_ (length_ok (lenAt lv l k) (l.getD k default) lv hv (by omega)) (Ret.flat rfl) rfl fun d h hR => ?_
    · simp only [go_sem, simprocAttr]
    obtain ⟨rfl, rfl⟩ := hR
    refine kont_of_hx cx_ok hb 200 ?_
    simp only [go_sem, simprocAttr]
    have hle2 := lenAt_le lv l (k + 1)
    simp only [lenAt] at hle2
    have hlen := spAt_len lv l k
    have hwr := wrap_succ (show k < 4611686018427387904 by omega)
    by_cases hn : lenAt lv l k = 0 <;> by_cases hm : lenN (lenAt lv l k) (l.getD k default) lv = 0
    · have e5 : spAt lv l (k + 1) = spAt lv l k := by simp only [spAt, spStep]; rw [if_neg (by omega), if_neg (by omega)]
      simp only [go_sem, simprocAttr, bz hn, dnp hm, dnp hn, bz hm]
      exact ⟨hk1, _, Weak.to 1 (by simp only [go_sem, simprocAttr, hwr, lenAt, e5]), g, rfl⟩
    · have e5 : spAt lv l (k + 1) = spAt lv l k ++ [⟨(l.getD k default).at_, 0, k, 0, true⟩] := by simp only [spAt, spStep]; rw [if_pos (by omega)]
      simp only [go_sem, simprocAttr, bz hn, dp hm, dnp hn, bnz hm]
      refine ⟨by omega, hk1, _, Weak.to 1 ⟨?_, by simp only [go_sem, simprocAttr], by simp only [go_sem, simprocAttr], ?_⟩, g + 1, rfl⟩
      · simp only [go_sem, simprocAttr, hwr, lenAt, e5, List.length_append]
      · simp only [go_sem, simprocAttr, e5, List.length_append]
        intro i hi
        by_cases h : i < (spAt lv l k).length
        · simp [h, List.getElem?_append_left h]
        · have : i = (spAt lv l k).length := by omega
          subst this
          simp
    · have e5 : spAt lv l (k + 1) = (spAt lv l k).set ((spAt lv l k).length - 1) { (spAt lv l k).getD ((spAt lv l k).length - 1) default with to := (l.getD k default).at_, lst := k, opn := false } := by simp only [spAt, spStep]; rw [if_neg (by omega), if_pos (by omega)]
      have hpos := spAt_pos lv l k (by omega)
      have e6 : IntKind.i64.wrap (((spAt lv l k).length : Int) - 1) = (((spAt lv l k).length - 1 : Nat) : Int) := by rw [wrap64 (by omega) (by omega)]; omega
      have e7 : (spAt lv l k).length - 1 < (spAt lv l k).length := by omega
      simp only [go_sem, simprocAttr, bnz hn, dnp hm, dp hn, bz hm, e6, e7]
      refine ⟨hk1, _, Weak.to 1 ⟨?_, by simp only [go_sem, simprocAttr], by simp only [go_sem, simprocAttr], ?_⟩, g, rfl⟩
      · simp only [go_sem, simprocAttr, hwr, lenAt, e5, List.length_set]
      · simp only [go_sem, simprocAttr, e5, List.length_set]
        intro i hi
        by_cases h : i = (spAt lv l k).length - 1
        · subst h; simp [e7]
        · simp [h, beq_eq_false_iff_ne.2 h, List.getElem?_set_ne (Ne.symm h)]
    · have e5 : spAt lv l (k + 1) = spAt lv l k := by simp only [spAt, spStep]; rw [if_neg (by omega), if_neg (by omega)]
      simp only [go_sem, simprocAttr, bnz hn, dp hm, dp hn, bnz hm]
      exact ⟨hk1, _, Weak.to 1 (by simp only [go_sem, simprocAttr, hwr, lenAt, e5]), g, rfl⟩
  · have hk1 : k = l.length := by simp at h; omega
    simp only [go_sem, simprocAttr]
    refine kont_of_hx cx_ok hb 200 ?_
    simp only [go_sem, simprocAttr]
    subst hk1
    exact ⟨g, rfl, rfl⟩

end Go.Fg.X.SP
namespace Go.Fg.X
open Go.Proofs Go.Fg
set_option maxRecDepth 100000
set_option maxHeartbeats 4000000
set_option linter.unusedSimpArgs false
set_option linter.unusedVariables false
section
variable (h : List Ob) (t m c : Nat) {es : List Ent} {L : List Kls} (T : TreeIs es L) (hE : ∀ n, Ends L 16 n)
  (ht : (h.map Ob.ro)[t]? = some ⟨.rone, 0, 1, 1, fun _ => [.mref m 0]⟩) (hm : (h.map Ob.ro)[m]? = some (mapOb .i64 c es).ro)
include T ht hm hE
end
end Go.Fg.X
/- The real-time curves of a tree's classes: walked, and the reference's. Conditions: fewer than a million classes, no number below 0. -/
namespace Go.Fg.X
open Go.Proofs Go.Fg
set_option maxRecDepth 100000
set_option maxHeartbeats 8000000
set_option linter.unusedSimpArgs false
set_option linter.unusedVariables false
def ncv (c : Cv) : Nc := ⟨c.m1.toNat, c.d.toNat, c.m2.toNat⟩
theorem ncv_a {c : Cv} (h : c.Nn) : ((ncv c).a : Int) = c.m1 := Int.toNat_of_nonneg h.1
theorem ncv_d {c : Cv} (h : c.Nn) : ((ncv c).d : Int) = c.d := Int.toNat_of_nonneg h.2.1
theorem ncv_b {c : Cv} (h : c.Nn) : ((ncv c).b : Int) = c.m2 := Int.toNat_of_nonneg h.2.2
theorem ncv_cells {c : Cv} (h : c.Nn) : (ncv c).cells = c.cells := by simp only [Nc.cells, Cv.cells, u64, ncv_a h, ncv_d h, ncv_b h]
def realB (x : Kls) : Bool := decide (1 < ofI x.rt)
def realsF (L : List Kls) : List Nc := (L.filter realB).map fun x => ncv x.rt
theorem realsF_len (L : List Kls) : (realsF L).length ≤ L.length := by
  have := List.length_filter_le realB L
  unfold realsF; rw [List.length_map]; exact this
theorem realsF_succ (L : List Kls) {i : Nat} (hi : i < L.length) : realsF (L.take (i + 1)) = if realB (L.getD i default) = true then realsF (L.take i) ++ [ncv (L.getD i default).rt] else realsF (L.take i) := by
  unfold realsF
  rw [List.take_add_one, List.getElem?_eq_getElem hi]
  simp only [Option.toList_some, List.filter_append, List.map_append, List.getD_eq_getElem?_getD, List.getElem?_eq_getElem hi, Option.getD_some]
  by_cases hg : realB L[i] = true
  · rw [if_pos hg, List.filter_cons_of_pos hg]; rfl
  · rw [if_neg hg, List.filter_cons_of_neg hg]; simp
theorem ncUp (c : Nc) : uptoL 1 c.cells = true := rfl
theorem rreals0_ok (L : List Kls) (hl : L.length < 1000000) (hn : ∀ c ∈ L, c.Nn) : AFn Tryz.prog 10 [kls L] (RetS 3 Nc.cells (realsF L)) := by
  refine AFn_hxk 1 cx_ok 200 Tryz.func10 rfl Tryz.ntmps10 Tryz.results10 rfl fun base w hb => ?_
  simp only [go_sem, simprocAttr]
  refine kont_for (fun i s => ∃ g off row, RowsAt Nc.cells (realsF (L.take i)) off row ∧ s = ⟨[(3, .ref 0 g off (realsF (L.take i)).length), (6, kls L), (7, dint L.length), (8, dint i)], [⟨.arr, g, 3, off + (realsF (L.take i)).length, row⟩]⟩) L.length
    (s0 := ⟨[(3, .ref 0 0 0 0), (6, kls L), (7, dint L.length), (8, dint 0)], [⟨.arr, 0, 3, 0, fun _ => []⟩]⟩)
    (Weak.trans (Weak.phantom 3 3 (fun i => []) rfl) (Weak.frame (by simp only [go_sem, simprocAttr]))) ⟨0, 0, fun _ => [], .nil, rfl⟩ ?_
  rintro i s hi ⟨g, off, row, hr, rfl⟩
  have hcl : (realsF (L.take i)).length ≤ i := by have := realsF_len (L.take i); simp at this; omega
  have hwr := wrap_succ (show i < 4611686018427387904 by omega)
  refine kont_of_hx cx_ok hb 200 ?_
  simp only [go_sem, simprocAttr]
  first | refine hite_lt hi (fun hk1 => ?_) (fun hk1 => ?_) | refine hite_ltI hi (fun hk1 => ?_) (fun hk1 => ?_)
  · obtain ⟨M, hM⟩ : ∃ M, M = realsF (L.take i) := ⟨_, rfl⟩
    obtain ⟨e, he⟩ : ∃ e, e = L.getD i default := ⟨_, rfl⟩
    have hen : e.Nn := hn e (by rw [he, List.getD_eq_getElem?_getD, List.getElem?_eq_getElem hk1]; exact List.getElem_mem hk1)
    have hst := realsF_succ L hk1
    rw [← hM, ← he] at hst
    rw [← hM] at hr hcl ⊢
    have hb4 : M.length ≤ 4294967295 := by omega
    simp only [go_sem, simprocAttr, hk1, ← he]
    refine kont_call hb fn26 rfl ?_ (rofcI_ok e.rt hen.1.1 hen.1.2.1 hen.1.2.2) (Ret.flat rfl) rfl fun d h hR => ?_
    · simp only [go_sem, simprocAttr]
    obtain ⟨rfl, rfl⟩ := hR
    refine kont_of_hx cx_ok hb 200 ?_
    simp only [go_sem, simprocAttr]
    by_cases hc : 1 < ofI e.rt
    · have hcb : realB e = true := decide_eq_true hc
      rw [if_pos hcb] at hst
      have hr2 := hr.app (ncv e.rt) (r2 := fun _ => (ncv e.rt).cells) rfl
      rw [ncv_cells hen.1] at hr2
      simp only [go_sem, simprocAttr, decide_eq_true hc, hb4, Go.undef]
      repeat (refine And.intro (by omega) ?_)
      refine ⟨_, Weak.to 1 ⟨?_, by simp only [go_sem, simprocAttr], ?_, ?_⟩, g + 1, 0, _, by rw [hst]; exact hr2, rfl⟩
      · simp only [go_sem, simprocAttr, hwr, hst, List.length_append, List.length_singleton]
      · exact ⟨fun j hj => hr2.upto ncUp j (by have hj2 := hj; simp only [hst] at hj2; simpa using hj2), trivial⟩
      · simp only [go_sem, simprocAttr, hst, List.length_append, List.length_singleton]
    · have hcb : ¬ realB e = true := by unfold realB; simpa using hc
      rw [if_neg hcb] at hst
      simp only [go_sem, simprocAttr, decide_eq_false hc, hb4, Go.undef]
      repeat (refine And.intro (by omega) ?_)
      refine ⟨_, Weak.to 1 ⟨?_, by simp only [go_sem, simprocAttr], ?_, ?_⟩, g, off, _, by rw [hst]; exact hr, rfl⟩
      · simp only [go_sem, simprocAttr, hwr, hst]
      · exact ⟨fun j hj => hr.upto ncUp j (by have hj2 := hj; simp only [hst] at hj2; simpa using hj2), trivial⟩
      · simp only [go_sem, simprocAttr, hst]
  · have h1 : i = L.length := by omega
    subst h1
    rw [List.take_length] at hr ⊢
    refine kont_of_hx cx_ok hb 200 ?_
    simp only [go_sem, simprocAttr]
    exact ⟨hr.upto ncUp, g, off, row, rfl, rfl, hr⟩
section
variable (h : List Ob) (t m c : Nat) {es : List Ent} {L : List Kls} (T : TreeIs es L) (hlen : L.length < 1000000)
  (ht : (h.map Ob.ro)[t]? = some ⟨.rone, 0, 1, 1, fun _ => [.mref m 0]⟩) (hm : (h.map Ob.ro)[m]? = some (mapOb .i64 c es).ro)
include T ht hm hlen
theorem hrealsH_ok (hn : ∀ c ∈ L, c.Nn) : RFn Tryz.prog 28 h [.ptr t 0 0 0] (fun d g => (d = .nil ∧ realsF L = []) ∨ ∃ lo gn row, d = .ref lo gn 0 (realsF L).length ∧ h.length ≤ lo ∧ (h ++ g)[lo]? = some ⟨.arr, gn, 3, (realsF L).length, row⟩ ∧ RowsAt Nc.cells (realsF L) 0 row) := by
  refine RFn_hx cx_ok 200 Tryz.func28 rfl Tryz.ntmps28 Tryz.results28 rfl fun base w pl F hF hFl hb => ?_
  rw [← hF] at ht hm
  have ht_l := hlt ht
  have hm_l := hlt hm
  simp only [go_sem, simprocAttr, hgetA, hgetL, hgetLk, hsetA, hsetL, hsetLk, List.length_append, List.length_set, List.append_assoc, List.set_set, ht, ht_l, hm, hm_l]
  have hT : Tells (F.map Ob.ro) 42 0 [] realB := fun h' x hx' => by
    refine RFn0_hx cx_ok 200 Tryz.func42 rfl Tryz.ntmps42 Tryz.results42 rfl fun base w pl F hF hFl hb => ?_
    simp only [go_sem, simprocAttr, hgetA, hgetL, hgetLk, hsetA, hsetL, hsetLk, List.length_append, List.length_set, List.append_assoc, List.set_set]
    refine kont_call hb fn44 rfl ?_ (shas_ok x.rt) (Ret.flat rfl) rfl fun d h hR => ?_
    · simp only [go_sem, simprocAttr, hgetA, hgetL, hgetLk, hsetA, hsetL, hsetLk, List.length_append, List.length_set, List.append_assoc, List.set_set]
    obtain ⟨rfl, rfl⟩ := hR
    refine kont_of_hx cx_ok hb 200 ?_
    simp only [go_sem, simprocAttr, hgetA, hgetL, hgetLk, hsetA, hsetL, hsetLk, List.length_append, List.length_set, List.append_assoc, List.set_set]
    exact ⟨_, rfl, rfl⟩
  obtain ⟨K, hK⟩ : ∃ K, K = L.filter realB := ⟨_, rfl⟩
  have hKl : K.length ≤ L.length := by rw [hK]; exact List.length_filter_le _ _
  have hRl : realsF L = K.map fun x => ncv x.rt := by rw [hK]; rfl
  refine kont_callR hb fn46 rfl ?_ (hwhich_ok _ t m c T hlen (ro_get ht) (roro_get hm) (.raw (.func (.func 42) ⟨[]⟩ ⟨[]⟩)) 42 0 [] fn42 rfl _ hT) rfl fun d g hs => ?_
  · simp only [go_sem, simprocAttr]
  rw [← hK] at hs
  rcases hs with ⟨rfl, h3⟩ | ⟨lo, gn, off, row, rfl, hlo, ho, hr⟩
  · have hR0 : realsF L = [] := by
      rw [hRl]
      have : K = [] := by simpa using h3
      rw [this]; rfl
    refine kont_of_hx cx_ok hb 200 ?_
    simp only [go_sem, simprocAttr, hgetA, hgetL, hgetLk, hsetA, hsetL, hsetLk, List.length_append, List.length_set, List.append_assoc, List.set_set]
    refine kont_for (fun i s => s = ⟨[(3, .nil), (8, dint 0), (9, dint 0)], F ++ g⟩) 0 (Weak.frame (by simp only [go_sem, simprocAttr])) rfl ?_
    rintro i s hi rfl
    refine kont_of_hx cx_ok hb 200 ?_
    simp only [go_sem, simprocAttr, hgetA, hgetL, hgetLk, hsetA, hsetL, hsetLk, List.length_append, List.length_set, List.append_assoc, List.set_set]
    refine kont_of_hx cx_ok hb 200 ?_
    simp only [go_sem, simprocAttr, hgetA, hgetL, hgetLk, hsetA, hsetL, hsetLk, List.length_append, List.length_set, List.append_assoc, List.set_set]
    exact ⟨_, rfl, .inl hR0⟩
  · obtain ⟨G, hG⟩ : ∃ G, G = F ++ g := ⟨_, rfl⟩
    have hxG : ExtF F G := ⟨g, hG⟩
    have htG := hxG.get ht
    have hmG := hxG.get hm
    rw [← hG] at ho ⊢
    have htG_l := hlt htG
    have hmG_l := hlt hmG
    have ho_l := hlt ho
    rw [List.length_map] at ho hr
    have hGl := hxG.len
    refine kont_of_hx cx_ok hb 200 ?_
    simp only [go_sem, simprocAttr, hgetA, hgetL, hgetLk, hsetA, hsetL, hsetLk, List.length_append, List.length_set, List.append_assoc, List.set_set]
    refine kont_for (fun i s => ∃ gm rw2 rest, RowsAt Nc.cells ((K.take i).map fun x => ncv x.rt) 0 rw2 ∧ s = ⟨[(0, .ptr t 0 0 0), (3, .ref G.length gm 0 ((K.take i).map fun x => ncv x.rt).length), (7, .ref lo gn off K.length), (8, dint K.length), (9, dint i)], G ++ (⟨.arr, gm, 3, ((K.take i).map fun x => ncv x.rt).length, rw2⟩ :: rest)⟩) K.length
      (s0 := ⟨[(0, .ptr t 0 0 0), (3, .ref G.length 0 0 0), (7, .ref lo gn off K.length), (8, dint K.length), (9, dint 0)], G ++ [⟨.arr, 0, 3, 0, fun _ => []⟩]⟩)
      (Weak.trans (Weak.phantom 3 3 (fun i => []) rfl) (Weak.frame (by simp only [go_sem, simprocAttr, List.length_map]))) ⟨0, fun _ => [], [], .nil, rfl⟩ ?_
    rintro i s hi ⟨gm, rw2, rest, hr2, rfl⟩
    have hwr := wrap_succ (show i < 4611686018427387904 by omega)
    refine kont_of_hx cx_ok hb 200 ?_
    simp only [go_sem, simprocAttr, hgetA, hgetL, hgetLk, hsetA, hsetL, hsetLk, List.length_append, List.length_set, List.append_assoc, List.set_set, htG, hmG, htG_l, hmG_l, ho, ho_l]
    first | refine hite_lt hi (fun hk1 => ?_) (fun hk1 => ?_) | refine hite_ltI hi (fun hk1 => ?_) (fun hk1 => ?_)
    · obtain ⟨x, hx⟩ : ∃ x, x = K.getD i default := ⟨_, rfl⟩
      have hxK : x ∈ K := by rw [hx, List.getD_eq_getElem?_getD, List.getElem?_eq_getElem hk1]; exact List.getElem_mem hk1
      have hxL : x ∈ L := by rw [hK] at hxK; exact (List.mem_filter.1 hxK).1
      have hfc : findC L x.iD = some x := (findC_iff T.sorted).2 ⟨hxL, rfl⟩
      have hlk := T.look x.iD
      rw [hfc, Option.map_some] at hlk
      have hri := hr i (by simpa using hk1)
      have hmap : (K.map (·.iD)).getD i 0 = x.iD := by
        rw [hx, List.getD_eq_getElem?_getD, List.getD_eq_getElem?_getD, List.getElem?_map, List.getElem?_eq_getElem hk1]; rfl
      rw [hmap] at hri
      have hst : (K.take (i + 1)).map (fun x => ncv x.rt) = (K.take i).map (fun x => ncv x.rt) ++ [ncv x.rt] := by
        rw [List.take_add_one, List.getElem?_eq_getElem hk1, hx, List.getD_eq_getElem?_getD, List.getElem?_eq_getElem hk1, List.map_append]
        rfl
      obtain ⟨M, hM⟩ : ∃ M, M = (K.take i).map fun x => ncv x.rt := ⟨_, rfl⟩
      have hMl : M.length ≤ i := by rw [hM, List.length_map, List.length_take]; omega
      have hb4 : M.length ≤ 4294967295 := by omega
      rw [← hM] at hst hr2 ⊢
      have hr3 := hr2.app (ncv x.rt) (r2 := fun _ => (ncv x.rt).cells) rfl
      rw [ncv_cells (hn x hxL).1] at hr3
      simp only [go_sem, simprocAttr, hgetA, hgetL, hgetLk, hsetA, hsetL, hsetLk, List.length_append, List.length_set, List.append_assoc, List.set_set, hk1, htG, hmG, htG_l, hmG_l, ho, ho_l, hri, hlk, hb4]
      refine ⟨by omega, _, Weak.frame (fr' := [(0, .ptr t 0 0 0), (3, .ref G.length (gm + 1) 0 (M.length + 1)), (7, .ref lo gn off K.length), (8, dint K.length), (9, dint (i + 1 : Nat))]) (by simp only [go_sem, simprocAttr, hwr]), gm + 1, _, rest ++ [⟨.arr, 0, 3, 1, fun _ => x.rt.cells⟩], by rw [hst]; exact hr3, ?_⟩
      rw [hst, List.length_append]
      rfl
    · have h1 : i = K.length := by omega
      subst h1
      rw [List.take_length, ← hRl] at hr2 ⊢
      refine kont_of_hx cx_ok hb 200 ?_
      simp only [go_sem, simprocAttr, hgetA, hgetL, hgetLk, hsetA, hsetL, hsetLk, List.length_append, List.length_set, List.append_assoc, List.set_set]
      refine ⟨g ++ (⟨.arr, gm, 3, (realsF L).length, rw2⟩ :: rest), by rw [hG, List.append_assoc], .inr ⟨G.length, gm, rw2, rfl, by omega, ?_, hr2⟩⟩
      have hle : G.length = (h ++ g).length := by rw [hG, List.length_append, List.length_append, hFl]
      rw [← List.append_assoc, hle, List.getElem?_append_right (Nat.le_refl _), Nat.sub_self]
      rfl
theorem hreals_ok (hn : ∀ c ∈ L, c.Nn) : RFn0 Tryz.prog 28 h [.ptr t 0 0 0] (fun d => d = ncs (realsF L)) := by
  refine freezeRF (ncs (realsF L)) (fun k => rfl) ?_ (hrealsH_ok h t m c T hlen ht hm hn)
  rintro d g (⟨rfl, h3⟩ | ⟨lo, gn, row, rfl, hlo, ho, hr⟩)
  · left
    rw [h3]
    simp only [go_sem, simprocAttr]
  · right
    refine ⟨lo, gn, 3, _, row, hlo, ho, fun i hi => ?_, ?_⟩
    · obtain ⟨a, ha⟩ := hr.all i (by simpa using hi)
      rw [ha]; rfl
    · have e1 : D.fz lo gn (realsF L).length 3 row (.ref lo gn 0 (realsF L).length) = .imm 3 (realsF L).length (rowFrom 0 row) := by simp [D.fz, nat_ble]
      rw [e1]
      simp only [ncs]
      rw [dLe_imm]
      refine ⟨rfl, rfl, fun i hi => ?_⟩
      have h1 := hr.at_ i hi
      rw [Nat.zero_add] at h1
      rw [rowFrom_at, Nat.zero_add, h1, Nc.rows_at]
      exact lLeOf_refl (dLe_refl _) _
end
end Go.Fg.X
namespace Go.Fg.X
open Go.Proofs Go.Fg
set_option maxRecDepth 100000
set_option maxHeartbeats 4000000
set_option linter.unusedSimpArgs false
set_option linter.unusedVariables false
section
variable (h : List Ob) (t m c : Nat) {es : List Ent} (T : TreeIs es [])
  (ht : (h.map Ob.ro)[t]? = some ⟨.rone, 0, 1, 1, fun _ => [.mref m 0]⟩) (hm : (h.map Ob.ro)[m]? = some (mapOb .i64 c es).ro)
include T ht hm
theorem hreals0_ok : RFn0 Tryz.prog 28 h [.ptr t 0 0 0] (fun d => d = .nil) := by
  refine RFn0_hx cx_ok 200 Tryz.func28 rfl Tryz.ntmps28 Tryz.results28 rfl fun base w pl F hF hFl hb => ?_
  rw [← hF] at ht hm
  have ht_l := hlt ht
  have hm_l := hlt hm
  simp only [go_sem, simprocAttr, hgetA, hgetL, hgetLk, hsetA, hsetL, hsetLk, List.length_append, List.length_set, List.append_assoc, List.set_set, ht, ht_l, hm, hm_l]
  have hT : Tells (F.map Ob.ro) 42 0 [] (fun x => decide (1 < ofI x.rt)) := fun h' x hx' => by
    refine RFn0_hx cx_ok 200 Tryz.func42 rfl Tryz.ntmps42 Tryz.results42 rfl fun base w pl F hF hFl hb => ?_
    simp only [go_sem, simprocAttr, hgetA, hgetL, hgetLk, hsetA, hsetL, hsetLk, List.length_append, List.length_set, List.append_assoc, List.set_set]
    refine kont_call hb fn44 rfl ?_ (shas_ok x.rt) (Ret.flat rfl) rfl fun d h hR => ?_
    · simp only [go_sem, simprocAttr, hgetA, hgetL, hgetLk, hsetA, hsetL, hsetLk, List.length_append, List.length_set, List.append_assoc, List.set_set]
    obtain ⟨rfl, rfl⟩ := hR
    refine kont_of_hx cx_ok hb 200 ?_
    simp only [go_sem, simprocAttr, hgetA, hgetL, hgetLk, hsetA, hsetL, hsetLk, List.length_append, List.length_set, List.append_assoc, List.set_set]
    exact ⟨_, rfl⟩
  refine kont_callR hb fn46 rfl ?_ (hwhich_ok _ t m c T (by simp) (ro_get ht) (roro_get hm) (.raw (.func (.func 42) ⟨[]⟩ ⟨[]⟩)) 42 0 [] fn42 rfl _ hT) rfl fun d g hs => ?_
  · simp only [go_sem, simprocAttr]
  rcases hs with ⟨rfl, h3⟩ | ⟨lo, gn, off, row, rfl, hlo, ho, hr⟩
  · refine kont_of_hx cx_ok hb 200 ?_
    simp only [go_sem, simprocAttr, hgetA, hgetL, hgetLk, hsetA, hsetL, hsetLk, List.length_append, List.length_set, List.append_assoc, List.set_set]
    refine kont_for (fun i s => s = ⟨[(3, .nil), (8, dint 0), (9, dint 0)], F ++ g⟩) 0 (Weak.frame (by simp only [go_sem, simprocAttr])) rfl ?_
    rintro i s hi rfl
    refine kont_of_hx cx_ok hb 200 ?_
    simp only [go_sem, simprocAttr, hgetA, hgetL, hgetLk, hsetA, hsetL, hsetLk, List.length_append, List.length_set, List.append_assoc, List.set_set]
    refine kont_of_hx cx_ok hb 200 ?_
    simp only [go_sem, simprocAttr, hgetA, hgetL, hgetLk, hsetA, hsetL, hsetLk, List.length_append, List.length_set, List.append_assoc, List.set_set]
    exact ⟨_, rfl⟩
  · refine kont_of_hx cx_ok hb 200 ?_
    simp only [go_sem, simprocAttr, hgetA, hgetL, hgetLk, hsetA, hsetL, hsetLk, List.length_append, List.length_set, List.append_assoc, List.set_set, List.filter_nil, List.map_nil, List.length_nil]
    refine kont_for (fun i s => s = ⟨[(3, .nil), (8, dint 0), (9, dint 0)], F ++ g⟩) 0 (Weak.frame (by simp only [go_sem, simprocAttr])) rfl ?_
    rintro i s hi rfl
    refine kont_of_hx cx_ok hb 200 ?_
    simp only [go_sem, simprocAttr, hgetA, hgetL, hgetLk, hsetA, hsetL, hsetLk, List.length_append, List.length_set, List.append_assoc, List.set_set]
    refine kont_of_hx cx_ok hb 200 ?_
    simp only [go_sem, simprocAttr, hgetA, hgetL, hgetLk, hsetA, hsetL, hsetLk, List.length_append, List.length_set, List.append_assoc, List.set_set]
    exact ⟨_, rfl⟩
end
section
variable (h : List Ob) (t m c : Nat) {es : List Ent} (T : TreeIs es [])
  (ht : (h.map Ob.ro)[t]? = some ⟨.rone, 0, 1, 1, fun _ => [.mref m 0]⟩) (hm : (h.map Ob.ro)[m]? = some (mapOb .i64 c es).ro)
include T ht hm
theorem proom0_ok (n : Int) : RFn0 Tryz.prog 11 h [.ptr t 0 0 0, dint n] (fun d => d = .tup [u64 (roomV n []), dint (fitsE n [])]) := by
  have hr : AFn Tryz.prog 27 [dint n, .nil] (Ret (.tup [u64 (roomV n []), dint (fitsE n [])])) := MFn.tellArgs (room0_ok n [] (by decide) (by simp) (by simp)) ⟨dLe_refl _ _, rfl, trivial⟩
  refine RFn0_hx cx_ok 200 Tryz.func11 rfl Tryz.ntmps11 Tryz.results11 rfl fun base w pl F hF hFl hb => ?_
  rw [← hF] at ht hm
  have ht_l := hlt ht
  have hm_l := hlt hm
  simp only [go_sem, simprocAttr, hgetA, hgetL, hgetLk, hsetA, hsetL, hsetLk, List.length_append, List.length_set, List.append_assoc, List.set_set, ht, ht_l, hm, hm_l]
  refine kont_callR0 hb fn28 rfl ?_ (hreals0_ok _ t m c T (ro_get ht) (roro_get hm)) rfl fun d hR => ?_
  · simp only [go_sem, simprocAttr, hgetA, hgetL, hgetLk, hsetA, hsetL, hsetLk, List.length_append, List.length_set, List.append_assoc, List.set_set]
  subst hR
  refine kont_of_hx cx_ok hb 200 ?_
  simp only [go_sem, simprocAttr, hgetA, hgetL, hgetLk, hsetA, hsetL, hsetLk, List.length_append, List.length_set, List.append_assoc, List.set_set]
  refine kont_call hb fn27 rfl ?_ hr (Ret.flat rfl) rfl fun d h hR => ?_
  · simp only [go_sem, simprocAttr, hgetA, hgetL, hgetLk, hsetA, hsetL, hsetLk, List.length_append, List.length_set, List.append_assoc, List.set_set]
  obtain ⟨rfl, rfl⟩ := hR
  refine kont_of_hx cx_ok hb 200 ?_
  simp only [go_sem, simprocAttr, hgetA, hgetL, hgetLk, hsetA, hsetL, hsetLk, List.length_append, List.length_set, List.append_assoc, List.set_set]
  exact ⟨[], (List.append_nil F).symm⟩
theorem padmits0_ok (n : Int) (x : Nc) (hx : x.Lt) (hk : x.of < 3) : RFn0 Tryz.prog 12 h [.ptr t 0 0 0, dint n, dnc x] (fun d => d = dbool (fitsE n [x] == 0)) := by
  have hfi := fits0_ok n [x] (by simp) (by simpa using hx) (by simpa using hk)
  refine RFn0_hx cx_ok 200 Tryz.func12 rfl Tryz.ntmps12 Tryz.results12 rfl fun base w pl F hF hFl hb => ?_
  rw [← hF] at ht hm
  have ht_l := hlt ht
  have hm_l := hlt hm
  simp only [go_sem, simprocAttr, hgetA, hgetL, hgetLk, hsetA, hsetL, hsetLk, List.length_append, List.length_set, List.append_assoc, List.set_set, ht, ht_l, hm, hm_l]
  have hx2 : ExtF F (F ++ ([⟨.one, 0, 3, 1, fun _ => x.cells⟩] : List Ob)) := ⟨_, rfl⟩
  have hH2 : ((F ++ ([⟨.one, 0, 3, 1, fun _ => x.cells⟩, ⟨.arr, 0, 3, 1, fun _ => x.cells⟩, ⟨.arr, 0, 1, 2, fun k => List.take 1 (List.drop (k * 1) [D.nil, D.ref (F.length + 1) 0 0 1])⟩] : List Ob)).map Ob.ro)[F.length + 2]? = some ⟨.rarr, 0, 1, 2, fun k => List.take 1 (List.drop (k * 1) [D.nil, D.ref (F.length + 1) 0 0 1])⟩ := ro_get (o := ⟨.arr, 0, 1, 2, fun k => List.take 1 (List.drop (k * 1) [D.nil, D.ref (F.length + 1) 0 0 1])⟩) (by rw [hgetLk rfl]; rfl)
  have hH1 : ((F ++ ([⟨.one, 0, 3, 1, fun _ => x.cells⟩, ⟨.arr, 0, 3, 1, fun _ => x.cells⟩, ⟨.arr, 0, 1, 2, fun k => List.take 1 (List.drop (k * 1) [D.nil, D.ref (F.length + 1) 0 0 1])⟩] : List Ob)).map Ob.ro)[F.length + 1]? = some ⟨.rarr, 0, 3, 1, fun _ => x.cells⟩ := ro_get (o := ⟨.arr, 0, 3, 1, fun _ => x.cells⟩) (by rw [hgetLk rfl]; rfl)
  refine kont_haxF cx_ok hb 200 mixed [(0, true), (1, true), (2, true), (3, true), (4, true), (6, true)] [5, 7, 8, 9, 10, 11, 12, 13] (by kernel_rfl) (by kernel_rfl) ?_
  simp only [go_sem, simprocAttr, hgetA, hgetL, hgetLk, hsetA, hsetL, hsetLk, List.length_append, List.length_set, List.append_assoc, List.set_set, ht, hm, bne]
  constructor
  · refine AX_callR0 hb fn28 rfl ?_ (hreals0_ok _ t m c T (ro_get (hx2.get ht)) (roro_get (hx2.get hm))) rfl fun d hR => ?_
    · simp only [go_sem, simprocAttr]
    subst hR
    refine AX_of_hax cx_ok hb ?_
    simp only [go_sem, simprocAttr, hgetA, hgetL, hgetLk, hsetA, hsetL, hsetLk, List.length_append, List.length_set, List.append_assoc, List.set_set]
    refine AX_callR hb fn30 rfl ?_ (concat01_ok (F ++ [⟨.one, 0, 3, 1, fun _ => x.cells⟩, ⟨.arr, 0, 3, 1, fun _ => x.cells⟩, ⟨.arr, 0, 1, 2, fun k => List.take 1 (List.drop (k * 1) [D.nil, D.ref (F.length + 1) 0 0 1])⟩]) (F.length + 2) (F.length + 1) (fun k => List.take 1 (List.drop (k * 1) [D.nil, D.ref (F.length + 1) 0 0 1])) (fun _ => x.cells) x hH2 hH1 rfl rfl rfl) rfl fun d g hR => ?_
    · simp only [go_sem, simprocAttr]
    obtain ⟨gn, row, rfl, rfl, hrow⟩ := hR
    refine AX_of_hax cx_ok hb ?_
    simp only [go_sem, simprocAttr, hgetA, hgetL, hgetLk, hsetA, hsetL, hsetLk, List.length_append, List.length_set, List.append_assoc, List.set_set]
    refine AX_call hb fn29 rfl ?_ hfi (Ret.flat rfl) rfl fun d h hR => ?_
    · simp only [go_sem, simprocAttr, hgetA, hgetL, hgetLk, hsetA, hsetL, hsetLk, List.length_append, List.length_set, List.append_assoc, List.set_set]
      have hrow2 : ∀ i, i < 1 → row i = x.cells := fun i hi => by
        obtain rfl : i = 0 := by omega
        exact hrow
      exact ⟨fun i hi => by (rw [hrow2 i hi]; rfl), fun i hi => by (obtain rfl : i = 0 := by omega); exact hrow⟩
    obtain ⟨rfl, rfl⟩ := hR
    refine AX_of_hax cx_ok hb ?_
    simp only [go_sem, simprocAttr, hgetA, hgetL, hgetLk, hsetA, hsetL, hsetLk, List.length_append, List.length_set, List.append_assoc, List.set_set]
    exact ⟨_, rfl⟩
  · have hx3 : ExtF F (F ++ ([⟨.one, 0, 3, 1, fun _ => x.cells⟩, ⟨.arr, 0, 3, 1, fun _ => x.cells⟩] : List Ob)) := ⟨_, rfl⟩
    refine AX_callR0 hb fn28 rfl ?_ (hreals0_ok _ t m c T (ro_get (hx3.get ht)) (roro_get (hx3.get hm))) rfl fun d hR => ?_
    · simp only [go_sem, simprocAttr]
    subst hR
    refine AX_of_hax cx_ok hb ?_
    simp only [go_sem, simprocAttr, hgetA, hgetL, hgetLk, hsetA, hsetL, hsetLk, List.length_append, List.length_set, List.append_assoc, List.set_set]
    refine AX_callR hb fn30 rfl ?_ (concat01_ok (F ++ [⟨.one, 0, 3, 1, fun _ => x.cells⟩, ⟨.arr, 0, 3, 1, fun _ => x.cells⟩, ⟨.arr, 0, 1, 2, fun k => List.take 1 (List.drop (k * 1) [D.nil, D.ref (F.length + 1) 0 0 1])⟩]) (F.length + 2) (F.length + 1) (fun k => List.take 1 (List.drop (k * 1) [D.nil, D.ref (F.length + 1) 0 0 1])) (fun _ => x.cells) x hH2 hH1 rfl rfl rfl) rfl fun d g hR => ?_
    · simp only [go_sem, simprocAttr]
    obtain ⟨gn, row, rfl, rfl, hrow⟩ := hR
    refine AX_of_hax cx_ok hb ?_
    simp only [go_sem, simprocAttr, hgetA, hgetL, hgetLk, hsetA, hsetL, hsetLk, List.length_append, List.length_set, List.append_assoc, List.set_set]
    refine AX_call hb fn29 rfl ?_ hfi (Ret.flat rfl) rfl fun d h hR => ?_
    · simp only [go_sem, simprocAttr, hgetA, hgetL, hgetLk, hsetA, hsetL, hsetLk, List.length_append, List.length_set, List.append_assoc, List.set_set]
      have hrow2 : ∀ i, i < 1 → row i = x.cells := fun i hi => by
        obtain rfl : i = 0 := by omega
        exact hrow
      exact ⟨fun i hi => by (rw [hrow2 i hi]; rfl), fun i hi => by (obtain rfl : i = 0 := by omega); exact hrow⟩
    obtain ⟨rfl, rfl⟩ := hR
    refine AX_of_hax cx_ok hb ?_
    simp only [go_sem, simprocAttr, hgetA, hgetL, hgetLk, hsetA, hsetL, hsetLk, List.length_append, List.length_set, List.append_assoc, List.set_set]
    exact ⟨_, rfl⟩
end
end Go.Fg.X
/- The plain law: a linear curve fits just if its slope is at most room. No conditions beyond the lists'. -/
namespace Go.Fg.X
open Go.Proofs Go.Fg
set_option maxRecDepth 100000
set_option maxHeartbeats 4000000
set_option linter.unusedSimpArgs false
set_option linter.unusedVariables false
/-- What is left of a link's slope beside so much service in so many ticks. -/
def restV (t n k : Nat) : Nat := (65536 * k - n * t) / (t * k)
/-- Room beside curves. -/
def minR (t : Nat) (l : List Nc) (K : List Int) : Nat := K.foldl (fun o x => min o (restV t (svcG l x.toNat) x.toNat)) (restV t (sumG (fun c => c.b) l) 1)
def roomW (t : Int) (l : List Nc) : Nat := if fitsW t l = 0 then minR t.toNat l (kneesV l) else 0
theorem foldl_min_le {f : Int → Nat} (a : Nat) : ∀ {K : List Int} {o : Nat}, a ≤ K.foldl (fun o x => min o (f x)) o ↔ a ≤ o ∧ ∀ x ∈ K, a ≤ f x
  | [], o => by simp
  | x :: K, o => by
    rw [List.foldl_cons, foldl_min_le a (K := K)]
    simp only [List.mem_cons, forall_eq_or_imp, Nat.le_min, and_assoc]
theorem minR_le (t : Nat) (l : List Nc) (K : List Int) (a : Nat) : a ≤ minR t l K ↔ a ≤ restV t (sumG (fun c => c.b) l) 1 ∧ ∀ x ∈ K, a ≤ restV t (svcG l x.toNat) x.toNat := foldl_min_le a
theorem le_rest {t n k a : Nat} (ht : 0 < t) (hk : 0 < k) (h : n * t ≤ 65536 * k) : a ≤ restV t n k ↔ (n + a * k) * t ≤ 65536 * k := by
  unfold restV
  rw [Nat.le_div_iff_mul_le (Nat.mul_pos ht hk)]
  have e : a * (t * k) = a * k * t := by rw [Nat.mul_comm t k, Nat.mul_assoc]
  rw [e, Nat.add_mul]
  omega
theorem sumG_app (g : Nc → Nat) (l : List Nc) (c : Nc) : sumG g (l ++ [c]) = if c.of = 0 then sumG g l else sumG g l + g c := by
  unfold sumG
  rw [List.foldl_append]
  rfl
/-- A linear curve, or none. -/
def linC (c : Nc) : Prop := c.d = 0 ∧ c.a = c.b ∧ c.a ≤ 4294967295
theorem linC.of {c : Nc} (h : linC c) : c.of ≠ 0 ∧ isKnee c = false := by
  obtain ⟨h1, h2, h3⟩ := h
  have e : c.of = 1 ∨ c.of = 2 := by
    unfold Nc.of ofV
    repeat' split
    all_goals first | (left; rfl) | (right; rfl) | omega
  unfold isKnee
  rcases e with e | e <;> rw [e] <;> decide
theorem linC.ser {c : Nc} (h : linC c) (k : Nat) : serV c.a c.d c.b k = c.a * k := by
  have h0 := h.of.1
  obtain ⟨h1, h2, h3⟩ := h
  have h0' : ¬ ofV c.a c.d c.b = 0 := h0
  unfold serV
  rw [if_neg h0', h1, ← h2]
  simp
theorem knees_app {l : List Nc} {c : Nc} (h : linC c) (x : Int) : x ∈ kneesV (l ++ [c]) ↔ x ∈ kneesV l := by
  rw [kneesV_mem, kneesV_mem]
  constructor
  · rintro ⟨e, h1, h2, h3⟩
    rcases List.mem_append.1 h1 with h4 | h4
    · exact ⟨e, h4, h2, h3⟩
    · rw [List.mem_singleton.1 h4, h.of.2] at h2; cases h2
  · rintro ⟨e, h1, h2, h3⟩
    exact ⟨e, List.mem_append_left _ h1, h2, h3⟩
theorem may_app {t : Int} {l : List Nc} {c : Nc} (h : linC c) : mayE t (l ++ [c]) = mayE t l := by
  have e : badL (l ++ [c]) = badL l := by
    unfold badL
    rw [List.any_append]
    have : ([c].any fun c => c.of == 0) = false := by simp [h.of.1]
    rw [this, Bool.or_false]
  unfold mayE
  rw [e]
theorem fitsW_may {t : Int} {l : List Nc} (h : fitsW t l = 0) : mayE t l = 0 := by
  unfold fitsW at h
  split at h
  · contradiction
  · rename_i h2; simpa using h2
theorem mayE_t {t : Int} {l : List Nc} (h : mayE t l = 0) : ∃ n : Nat, t = (n : Int) ∧ n ≤ 65536 ∧ 0 < n := by
  refine ⟨t.toNat, ?_⟩
  unfold mayE at h
  split at h
  · cases h
  · omega
theorem fitsW_iff {t : Nat} {l : List Nc} (h : mayE t l = 0) : fitsW t l = 0 ↔ (∀ x ∈ kneesV l, svcG l x.toNat * t ≤ 65536 * x.toNat) ∧ sumG (fun c => c.b) l * t ≤ 65536 := by
  unfold fitsW
  rw [if_neg (by simpa using h)]
  have e : fullW (t : Int).toNat l = true ↔ ¬ ((∀ x ∈ kneesV l, svcG l x.toNat * t ≤ 65536 * x.toNat) ∧ sumG (fun c => c.b) l * t ≤ 65536) := by
    unfold fullW fullS overB
    simp only [Int.toNat_natCast, Bool.or_eq_true, List.any_eq_true, decide_eq_true_eq]
    constructor
    · rintro (⟨x, hx, h1⟩ | h1) ⟨h2, h3⟩
      · have := h2 x hx; omega
      · omega
    · intro h
      by_cases h1 : sumG (fun c => c.b) l * t ≤ 65536
      · left
        by_cases h2 : ∃ x, x ∈ kneesV l ∧ 65536 * x.toNat < svcG l x.toNat * t
        · exact h2
        · refine absurd ⟨fun x hx => ?_, h1⟩ h
          rcases Nat.lt_or_ge (65536 * x.toNat) (svcG l x.toNat * t) with h3 | h3
          · exact absurd ⟨x, hx, h3⟩ h2
          · exact h3
      · right; omega
  by_cases hf : fullW (t : Int).toNat l = true
  · rw [if_pos hf]
    simp only [show ¬ ((22 : Int) = 0) by decide, false_iff]
    exact e.1 hf
  · rw [if_neg hf]
    simp only [true_iff]
    by_cases h2 : (∀ x ∈ kneesV l, svcG l x.toNat * t ≤ 65536 * x.toNat) ∧ sumG (fun c => c.b) l * t ≤ 65536
    · exact h2
    · exact absurd (e.2 h2) hf
/-- A LINEAR CURVE FITS JUST IF ITS SLOPE IS AT MOST ROOM. -/
theorem lin_fits {t : Int} {l : List Nc} {c : Nc} (h : linC c) (hf : fitsW t l = 0) : (fitsW t (l ++ [c]) = 0) ↔ c.a ≤ roomW t l := by
  obtain ⟨n, rfl, hn, hn0⟩ := mayE_t (fitsW_may hf)
  have hm := fitsW_may hf
  have hf0 := (fitsW_iff hm).1 hf
  rw [roomW, if_pos hf, Int.toNat_natCast, minR_le, le_rest hn0 (by decide) (by have := hf0.2; omega), fitsW_iff (by rw [may_app h]; exact hm)]
  have e1 : sumG (fun c => c.b) (l ++ [c]) = sumG (fun c => c.b) l + c.a * 1 := by
    rw [sumG_app, if_neg h.of.1, Nat.mul_one, h.2.1]
  have e2 : ∀ k, svcG (l ++ [c]) k = svcG l k + c.a * k := fun k => by
    unfold svcG
    rw [sumG_app, if_neg h.of.1, h.ser]
  rw [e1]
  constructor
  · rintro ⟨h1, h2⟩
    refine ⟨by omega, fun x hx => ?_⟩
    obtain ⟨k, rfl, hk0, hk1⟩ := knee_nat hx
    have h3 := h1 k ((knees_app h _).2 hx)
    have h4 := hf0.1 k hx
    rw [Int.toNat_natCast] at h3 h4 ⊢
    rw [le_rest hn0 hk0 h4, ← e2]
    exact h3
  · rintro ⟨h1, h2⟩
    refine ⟨fun x hx => ?_, by omega⟩
    have hx' := (knees_app h _).1 hx
    obtain ⟨k, rfl, hk0, hk1⟩ := knee_nat hx'
    have h3 := h2 k hx'
    have h4 := hf0.1 k hx'
    rw [Int.toNat_natCast] at h3 h4 ⊢
    rw [le_rest hn0 hk0 h4, ← e2] at h3
    exact h3
end Go.Fg.X
/- Room in general, and a curve put behind a list: walked. Conditions: fewer than 2^20 curves. -/
namespace Go.Fg.X
open Go.Proofs Go.Fg
set_option maxRecDepth 100000
set_option maxHeartbeats 8000000
set_option linter.unusedSimpArgs false
set_option linter.unusedVariables false
theorem concat2_ok (h : List Ob) (l2 lc : Nat) (row2 rowc : Nat → List D) (l : List Nc) (hl : l.length < 1000000) (c : Nc) (h2 : (h.map Ob.ro)[l2]? = some ⟨.rarr, 0, 1, 2, row2⟩) (hc : (h.map Ob.ro)[lc]? = some ⟨.rarr, 0, 3, 1, rowc⟩) (e0 : row2 0 = [ncs l]) (e1 : row2 1 = [.ref lc 0 0 1]) (ec : rowc 0 = c.cells) :
    RFn Tryz.prog 30 h [.ref l2 0 0 2] (fun d g => ∃ gn row, d = .ref h.length gn 0 (l.length + 1) ∧ g = [⟨.arr, gn, 3, l.length + 1, row⟩] ∧ ∀ i, i < l.length + 1 → row i = ((l ++ [c]).getD i default).cells) := by
  have w1 : IntKind.i64.wrap (l.length : Int) = (l.length : Int) := by rw [IntKind.wrap_i64]; omega
  have w2 : IntKind.i64.wrap ((l.length : Int) + 1) = ((l.length + 1 : Nat) : Int) := by rw [IntKind.wrap_i64]; omega
  have n1 : decide ((l.length : Int) < 0) = false := decide_eq_false (by omega)
  have n2 : decide (((l.length + 1 : Nat) : Int) < 0) = false := decide_eq_false (by omega)
  refine RFn_hx cx_ok 200 Tryz.func30 rfl Tryz.ntmps30 Tryz.results30 rfl fun base w pl F hF hFl hb => ?_
  rw [← hF] at h2 hc
  have h2_l := hlt h2
  have hc_l := hlt hc
  simp only [go_sem, simprocAttr, hgetA, hgetL, hgetLk, hsetA, hsetL, hsetLk, List.length_append, List.length_set, List.append_assoc, List.set_set, h2, h2_l, hc, hc_l]
  obtain ⟨sz, hs0, hs1, hs2⟩ : ∃ sz : Nat → Int, sz 0 = 0 ∧ sz 1 = l.length ∧ sz 2 = (l.length + 1 : Nat) := ⟨fun i => if i = 0 then 0 else if i = 1 then l.length else (l.length + 1 : Nat), rfl, rfl, rfl⟩
  refine kont_for (fun i s => s = ⟨[(0, .ref l2 0 0 2), (3, .raw (.int .i64 (sz i))), (9, .ref l2 0 0 2), (10, dint 2), (11, dint i)], F⟩) 2 (Weak.frame (by simp only [go_sem, simprocAttr, hs0])) rfl ?_
  rintro i s hi rfl
  have hi3 : i = 0 ∨ i = 1 ∨ i = 2 := by omega
  rcases hi3 with rfl | rfl | rfl
  · refine kont_of_hx cx_ok hb 200 ?_
    simp only [go_sem, simprocAttr, hgetA, hgetL, hgetLk, hsetA, hsetL, hsetLk, List.length_append, List.length_set, List.append_assoc, List.set_set, h2, h2_l, e0, e1, hc, hc_l, w640, w641, hs0, Int.zero_add, w1, n1]
    exact ⟨_, Weak.frame (fr' := [(0, .ref l2 0 0 2), (3, .raw (.int .i64 (sz 1))), (9, .ref l2 0 0 2), (10, dint 2), (11, .raw (.int .i64 1))]) (by simp only [go_sem, simprocAttr, hs1]), rfl⟩
  · refine kont_of_hx cx_ok hb 200 ?_
    simp only [go_sem, simprocAttr, hgetA, hgetL, hgetLk, hsetA, hsetL, hsetLk, List.length_append, List.length_set, List.append_assoc, List.set_set, h2, h2_l, e0, e1, hc, hc_l, w640, w641, hs1, w2, n2]
    exact ⟨_, Weak.frame (fr' := [(0, .ref l2 0 0 2), (3, .raw (.int .i64 (sz 2))), (9, .ref l2 0 0 2), (10, dint 2), (11, .raw (.int .i64 2))]) (by simp only [go_sem, simprocAttr, hs2, w642]), rfl⟩
  · refine kont_of_hx cx_ok hb 200 ?_
    simp only [go_sem, simprocAttr, hgetA, hgetL, hgetLk, hsetA, hsetL, hsetLk, List.length_append, List.length_set, List.append_assoc, List.set_set, h2, h2_l, e0, e1, hc, hc_l, w640, w641, hs2]
    refine kont_of_hx cx_ok hb 200 ?_
    simp only [go_sem, simprocAttr, hgetA, hgetL, hgetLk, hsetA, hsetL, hsetLk, List.length_append, List.length_set, List.append_assoc, List.set_set, h2, h2_l, e0, e1, hc, hc_l, w640, w641, hs2]
    refine kont_call hb fn61 rfl ?_ (growC_ok (l.length + 1) (by omega) (by omega)) (fun d h ⟨row, h1, h2⟩ => ⟨by rw [h1]; rfl, fun o ho => by rw [h2] at ho; simp at ho; subst ho; exact fun i hi => absurd hi (Nat.not_lt_zero i)⟩) rfl fun d h' hR => ?_
    · simp only [go_sem, simprocAttr, hgetA, hgetL, hgetLk, hsetA, hsetL, hsetLk, List.length_append, List.length_set, List.append_assoc, List.set_set]
    obtain ⟨row, rfl, rfl⟩ := hR
    refine kont_of_hx cx_ok hb 200 ?_
    simp only [go_sem, simprocAttr, hgetA, hgetL, hgetLk, hsetA, hsetL, hsetLk, List.length_append, List.length_set, List.append_assoc, List.set_set, h2, h2_l]
    refine kont_for (fun i s => ∃ gn m row, (i = 0 → m = 0) ∧ (i = 1 → m = l.length ∧ ∀ k, k < l.length → row k = (l.getD k default).cells) ∧ (i = 2 → m = l.length + 1 ∧ ∀ k, k < l.length + 1 → row k = ((l ++ [c]).getD k default).cells) ∧ s = ⟨[(6, .ref F.length gn 0 m), (25, .ref l2 0 0 2), (26, dint 2), (27, dint i)], F ++ [⟨.arr, gn, 3, m, row⟩]⟩) 2
      (s0 := ⟨[(6, .ref F.length 0 0 0), (25, .ref l2 0 0 2), (26, dint 2), (27, dint 0)], F ++ [⟨.arr, 0, 3, 0, fun i => shiftL F.length (row i)⟩]⟩) (Weak.frame (by simp only [go_sem, simprocAttr])) ⟨0, 0, _, fun _ => rfl, fun h => absurd h (by decide), fun h => absurd h (by decide), rfl⟩ ?_
    rintro i s hi ⟨gn, m, row, hm0, hm1, hm2, rfl⟩
    have hi3 : i = 0 ∨ i = 1 ∨ i = 2 := by omega
    have hb4 : l.length ≤ 4294967295 := by omega
    rcases hi3 with rfl | rfl | rfl
    · obtain rfl : m = 0 := hm0 rfl
      refine kont_of_hx cx_ok hb 200 ?_
      simp only [go_sem, simprocAttr, hgetA, hgetL, hgetLk, hsetA, hsetL, hsetLk, List.length_append, List.length_set, List.append_assoc, List.set_set, h2, h2_l, e0, e1, hc, hc_l, w640, w641, hb4]
      refine ⟨by omega, _, Weak.frame (fr' := [(6, .ref F.length (gn + 1) 0 l.length), (25, .ref l2 0 0 2), (26, dint 2), (27, .raw (.int .i64 1))]) (by simp only [go_sem, simprocAttr, w641]), _, _, _, ⟨rfl, fun k hk => ?_⟩, rfl⟩
      rw [appRow_ge (Nat.zero_le k)]; rfl
    · obtain ⟨rfl, hr⟩ := hm1 rfl
      refine kont_of_hx cx_ok hb 200 ?_
      simp only [go_sem, simprocAttr, hgetA, hgetL, hgetLk, hsetA, hsetL, hsetLk, List.length_append, List.length_set, List.append_assoc, List.set_set, h2, h2_l, e0, e1, hc, hc_l, w640, w641, hb4]
      refine ⟨fun k hk => ?_, _, Weak.frame (fr' := [(6, .ref F.length (gn + 1) 0 (l.length + 1)), (25, .ref l2 0 0 2), (26, dint 2), (27, .raw (.int .i64 2))]) (by simp only [go_sem, simprocAttr, w642]), _, _, _, ⟨rfl, fun k hk => ?_⟩, rfl⟩
      · obtain rfl : k = 0 := by omega
        rw [ec]; rfl
      · by_cases h1 : k < l.length
        · rw [appRow_lt h1, Nat.zero_add, hr k h1, List.getD_eq_getElem?_getD, List.getD_eq_getElem?_getD, List.getElem?_append_left h1]; rfl
        · obtain rfl : k = l.length := by omega
          rw [appRow_ge (Nat.le_refl _), Nat.sub_self, ec, List.getD_eq_getElem?_getD, List.getElem?_append_right (Nat.le_refl _), Nat.sub_self]; rfl
    · obtain ⟨rfl, hr0⟩ := hm2 rfl
      refine kont_of_hx cx_ok hb 200 ?_
      simp only [go_sem, simprocAttr, hgetA, hgetL, hgetLk, hsetA, hsetL, hsetLk, List.length_append, List.length_set, List.append_assoc, List.set_set, h2, h2_l, e0, e1, hc, hc_l, w640, w641]
      refine kont_of_hx cx_ok hb 200 ?_
      simp only [go_sem, simprocAttr, hgetA, hgetL, hgetLk, hsetA, hsetL, hsetLk, List.length_append, List.length_set, List.append_assoc, List.set_set, h2, h2_l, e0, e1, hc, hc_l, w640, w641]
      exact ⟨_, rfl, gn, row, by rw [hFl], rfl, hr0⟩
theorem min_succ (t : Nat) (l : List Nc) (K : List Int) {i : Nat} (hi : i < K.length) : minR t l (K.take (i + 1)) = min (minR t l (K.take i)) (restV t (svcG l (K.getD i 0).toNat) (K.getD i 0).toNat) := by
  unfold minR
  rw [List.take_add_one, List.getElem?_eq_getElem hi, Option.toList_some, List.foldl_append, List.getD_eq_getElem?_getD, List.getElem?_eq_getElem hi]; rfl
theorem roomG_ok (t : Int) (l : List Nc) (hl : l.length < 1048576) (hc : ∀ c ∈ l, c.Lt) : AFn Tryz.prog 27 [dint t, ncs l] (Ret (.tup [u64 (roomW t l), dint (fitsW t l)])) := by
  by_cases hf : fitsW t l = 0
  · have hm := fitsW_may hf
    obtain ⟨n, rfl, hn, hn0⟩ := mayE_t hm
    have hfs := (fitsW_iff hm).1 hf
    have e0 : (fitsW n l != 0) = false := by rw [hf]; rfl
    have e : roomW n l = minR n l (kneesV l) := by rw [roomW, if_pos hf]; rfl
    have hre := rest_ok (sumG (fun c => c.b) l) n 1 (slopeG_lt hl hc) hn hn0 (by decide) (by decide) (by have := hfs.2; omega)
    have hr0 : (65536 * 1 - sumG (fun c => c.b) l * n) / (n * 1) = minR n l [] := rfl
    rw [hr0] at hre
    have hkl := kneesV_len l
    rw [e]
    refine AFn_hxk 0 cx_ok 200 Tryz.func27 rfl Tryz.ntmps27 Tryz.results27 rfl fun base w hb => ?_
    simp only [go_sem, simprocAttr]
    refine kont_call hb fn29 rfl ?_ (fitsG_ok n l hl hc) (Ret.flat rfl) rfl fun d h hR => ?_
    · simp only [go_sem, simprocAttr, e0]
    obtain ⟨rfl, rfl⟩ := hR
    refine kont_of_hx cx_ok hb 200 ?_
    simp only [go_sem, simprocAttr, e0]
    refine kont_call hb fn56 rfl ?_ (sslope_ok l hl hc) (Ret.flat rfl) rfl fun d h hR => ?_
    · simp only [go_sem, simprocAttr]
    obtain ⟨rfl, rfl⟩ := hR
    refine kont_of_hx cx_ok hb 200 ?_
    simp only [go_sem, simprocAttr]
    refine kont_call hb fn55 rfl ?_ hre (Ret.flat rfl) rfl fun d h hR => ?_
    · simp only [go_sem, simprocAttr]
    obtain ⟨rfl, rfl⟩ := hR
    refine kont_of_hx cx_ok hb 200 ?_
    simp only [go_sem, simprocAttr]
    refine kont_callM hb [] fn57 rfl ?_ (knees_ok l hl) rfl fun d h hR => ?_
    · simp only [go_sem, simprocAttr]
    obtain ⟨rfl, rfl⟩ := hR
    simp only [go_sem, simprocAttr]
    refine kont_of_hx cx_ok hb 200 ?_
    simp only [go_sem, simprocAttr]
    refine kont_for (fun i s => s = ⟨[(0, dint n), (1, ncs l), (7, u64 (minR n l ((kneesV l).take i))), (21, uIs (kneesV l)), (22, dint (kneesV l).length), (23, dint i)], []⟩) (kneesV l).length (Weak.to 0 (by (simp only [go_sem, simprocAttr]) <;> simp)) rfl ?_
    rintro i s hi rfl
    have hwr := wrap_succ (show i < 4611686018427387904 by omega)
    refine kont_of_hx cx_ok hb 200 ?_
    simp only [go_sem, simprocAttr]
    first | refine hite_lt hi (fun hk1 => ?_) (fun hk1 => ?_) | refine hite_ltI hi (fun hk1 => ?_) (fun hk1 => ?_)
    · obtain ⟨k, hk, hk2, hk3⟩ := knee_nat (getD_memI hk1)
      have hst := min_succ n l (kneesV l) hk1
      rw [hk, Int.toNat_natCast] at hst
      have hfk := hfs.1 k (by rw [← hk]; exact getD_memI hk1)
      rw [Int.toNat_natCast] at hfk
      have hsv : AFn Tryz.prog 58 [ncs l, u64 k] (Ret (num (svcG l k))) := sservice_ok l k (by omega) hl hc
      have hrk : AFn Tryz.prog 55 [num (svcG l k), dint n, u64 k] (Ret (u64 (restV n (svcG l k) k))) := rest_ok (svcG l k) n k (svcG_lt hl hc hk3) hn hn0 hk3 hk2 hfk
      simp only [go_sem, simprocAttr, hk1, hk]
      refine kont_call hb fn58 rfl ?_ hsv (Ret.flat rfl) rfl fun d h hR => ?_
      · simp only [go_sem, simprocAttr]
      obtain ⟨rfl, rfl⟩ := hR
      refine kont_of_hx cx_ok hb 200 ?_
      simp only [go_sem, simprocAttr]
      refine kont_call hb fn55 rfl ?_ hrk (Ret.flat rfl) rfl fun d h hR => ?_
      · simp only [go_sem, simprocAttr, minU]
      obtain ⟨rfl, rfl⟩ := hR
      refine kont_of_hx cx_ok hb 200 ?_
      simp only [go_sem, simprocAttr, minU]
      refine ⟨hk1, _, ?_, rfl⟩
      rw [hst]
      exact Weak.to 0 (by (simp only [go_sem, simprocAttr, hwr, minU]) <;> simp)
    · have h1 : i = (kneesV l).length := by omega
      subst h1
      rw [List.take_length]
      refine kont_of_hx cx_ok hb 200 ?_
      simp only [go_sem, simprocAttr]
      rw [hf]
  · have e0 : (fitsW t l != 0) = true := by simpa using hf
    have e : roomW t l = 0 := by rw [roomW, if_neg hf]
    rw [e]
    refine AFn_hxk 0 cx_ok 200 Tryz.func27 rfl Tryz.ntmps27 Tryz.results27 rfl fun base w hb => ?_
    simp only [go_sem, simprocAttr]
    refine kont_call hb fn29 rfl ?_ (fitsG_ok t l hl hc) (Ret.flat rfl) rfl fun d h hR => ?_
    · simp only [go_sem, simprocAttr, e0]
    obtain ⟨rfl, rfl⟩ := hR
    refine kont_of_hx cx_ok hb 200 ?_
    simp only [go_sem, simprocAttr, e0]
end Go.Fg.X
/- Room and admission beside a tree: walked. Conditions: fewer than a million classes, no number below 0. -/
namespace Go.Fg.X
open Go.Proofs Go.Fg
set_option maxRecDepth 100000
set_option maxHeartbeats 8000000
set_option linter.unusedSimpArgs false
set_option linter.unusedVariables false
section
variable (h : List Ob) (t m c : Nat) {es : List Ent} {L : List Kls} (T : TreeIs es L) (hlen : L.length < 1000000)
  (ht : (h.map Ob.ro)[t]? = some ⟨.rone, 0, 1, 1, fun _ => [.mref m 0]⟩) (hm : (h.map Ob.ro)[m]? = some (mapOb .i64 c es).ro)
include T ht hm hlen
theorem proom_ok (hn : ∀ c ∈ L, c.Nn) (hlt2 : ∀ c ∈ realsF L, c.Lt) (n : Int) : RFn0 Tryz.prog 11 h [.ptr t 0 0 0, dint n] (fun d => d = .tup [u64 (roomW n (realsF L)), dint (fitsW n (realsF L))]) := by
  have hRl : (realsF L).length < 1048576 := by have := realsF_len L; omega
  have hr := roomG_ok n (realsF L) hRl hlt2
  refine RFn0_hx cx_ok 200 Tryz.func11 rfl Tryz.ntmps11 Tryz.results11 rfl fun base w pl F hF hFl hb => ?_
  rw [← hF] at ht hm
  have ht_l := hlt ht
  have hm_l := hlt hm
  simp only [go_sem, simprocAttr, hgetA, hgetL, hgetLk, hsetA, hsetL, hsetLk, List.length_append, List.length_set, List.append_assoc, List.set_set, ht, ht_l, hm, hm_l]
  refine kont_callR0 hb fn28 rfl ?_ (hreals_ok _ t m c T hlen (ro_get ht) (roro_get hm) hn) rfl fun d hR => ?_
  · simp only [go_sem, simprocAttr, hgetA, hgetL, hgetLk, hsetA, hsetL, hsetLk, List.length_append, List.length_set, List.append_assoc, List.set_set]
  subst hR
  refine kont_of_hx cx_ok hb 200 ?_
  simp only [go_sem, simprocAttr, hgetA, hgetL, hgetLk, hsetA, hsetL, hsetLk, List.length_append, List.length_set, List.append_assoc, List.set_set]
  refine kont_call hb fn27 rfl ?_ hr (Ret.flat rfl) rfl fun d h hR => ?_
  · simp only [go_sem, simprocAttr, hgetA, hgetL, hgetLk, hsetA, hsetL, hsetLk, List.length_append, List.length_set, List.append_assoc, List.set_set]
  obtain ⟨rfl, rfl⟩ := hR
  refine kont_of_hx cx_ok hb 200 ?_
  simp only [go_sem, simprocAttr, hgetA, hgetL, hgetLk, hsetA, hsetL, hsetLk, List.length_append, List.length_set, List.append_assoc, List.set_set]
  exact ⟨[], (List.append_nil F).symm⟩
theorem padmits_ok (hn : ∀ c ∈ L, c.Nn) (hlt2 : ∀ c ∈ realsF L, c.Lt) (n : Int) (x : Nc) (hx : x.Lt) : RFn0 Tryz.prog 12 h [.ptr t 0 0 0, dint n, dnc x] (fun d => d = dbool (fitsW n (realsF L ++ [x]) == 0)) := by
  have hRl : (realsF L).length < 1000000 := by have := realsF_len L; omega
  have hfi := fitsG_ok n (realsF L ++ [x]) (by simp; omega) (fun c hc => by
    rcases List.mem_append.1 hc with h1 | h1
    · exact hlt2 c h1
    · rw [List.mem_singleton.1 h1]; exact hx)
  obtain ⟨M, hM⟩ : ∃ M, M = realsF L := ⟨_, rfl⟩
  rw [← hM] at hfi hRl ⊢
  refine RFn0_hx cx_ok 200 Tryz.func12 rfl Tryz.ntmps12 Tryz.results12 rfl fun base w pl F hF hFl hb => ?_
  rw [← hF] at ht hm
  have ht_l := hlt ht
  have hm_l := hlt hm
  simp only [go_sem, simprocAttr, hgetA, hgetL, hgetLk, hsetA, hsetL, hsetLk, List.length_append, List.length_set, List.append_assoc, List.set_set, ht, ht_l, hm, hm_l]
  have hx2 : ExtF F (F ++ ([⟨.one, 0, 3, 1, fun _ => x.cells⟩] : List Ob)) := ⟨_, rfl⟩
  have hH2 : ((F ++ ([⟨.one, 0, 3, 1, fun _ => x.cells⟩, ⟨.arr, 0, 3, 1, fun _ => x.cells⟩, ⟨.arr, 0, 1, 2, fun k => List.take 1 (List.drop (k * 1) [ncs M, D.ref (F.length + 1) 0 0 1])⟩] : List Ob)).map Ob.ro)[F.length + 2]? = some ⟨.rarr, 0, 1, 2, fun k => List.take 1 (List.drop (k * 1) [ncs M, D.ref (F.length + 1) 0 0 1])⟩ := ro_get (o := ⟨.arr, 0, 1, 2, fun k => List.take 1 (List.drop (k * 1) [ncs M, D.ref (F.length + 1) 0 0 1])⟩) (by rw [hgetLk rfl]; rfl)
  have hH1 : ((F ++ ([⟨.one, 0, 3, 1, fun _ => x.cells⟩, ⟨.arr, 0, 3, 1, fun _ => x.cells⟩, ⟨.arr, 0, 1, 2, fun k => List.take 1 (List.drop (k * 1) [ncs M, D.ref (F.length + 1) 0 0 1])⟩] : List Ob)).map Ob.ro)[F.length + 1]? = some ⟨.rarr, 0, 3, 1, fun _ => x.cells⟩ := ro_get (o := ⟨.arr, 0, 3, 1, fun _ => x.cells⟩) (by rw [hgetLk rfl]; rfl)
  have hcon := concat2_ok (F ++ [⟨.one, 0, 3, 1, fun _ => x.cells⟩, ⟨.arr, 0, 3, 1, fun _ => x.cells⟩, ⟨.arr, 0, 1, 2, fun k => List.take 1 (List.drop (k * 1) [ncs M, D.ref (F.length + 1) 0 0 1])⟩]) (F.length + 2) (F.length + 1) (fun k => List.take 1 (List.drop (k * 1) [ncs M, D.ref (F.length + 1) 0 0 1])) (fun _ => x.cells) M hRl x hH2 hH1 rfl rfl rfl
  refine kont_haxF cx_ok hb 200 mixed [(0, true), (1, true), (2, true), (3, true), (4, true), (6, true)] [5, 7, 8, 9, 10, 11, 12, 13] (by kernel_rfl) (by kernel_rfl) ?_
  simp only [go_sem, simprocAttr, hgetA, hgetL, hgetLk, hsetA, hsetL, hsetLk, List.length_append, List.length_set, List.append_assoc, List.set_set, ht, hm, bne]
  constructor
  · have hre := hreals_ok _ t m c T hlen (ro_get (hx2.get ht)) (roro_get (hx2.get hm)) hn
    rw [← hM] at hre
    refine AX_callR0 hb fn28 rfl ?_ hre rfl fun d hR => ?_
    · simp only [go_sem, simprocAttr]
    subst hR
    refine AX_of_hax cx_ok hb ?_
    simp only [go_sem, simprocAttr, hgetA, hgetL, hgetLk, hsetA, hsetL, hsetLk, List.length_append, List.length_set, List.append_assoc, List.set_set]
    refine AX_callR hb fn30 rfl ?_ hcon rfl fun d g hR => ?_
    · simp only [go_sem, simprocAttr]
    obtain ⟨gn, row, rfl, rfl, hrow⟩ := hR
    refine AX_of_hax cx_ok hb ?_
    simp only [go_sem, simprocAttr, hgetA, hgetL, hgetLk, hsetA, hsetL, hsetLk, List.length_append, List.length_set, List.append_assoc, List.set_set]
    refine AX_call hb fn29 rfl ?_ hfi (Ret.flat rfl) rfl fun d h hR => ?_
    · simp only [go_sem, simprocAttr, hgetA, hgetL, hgetLk, hsetA, hsetL, hsetLk, List.length_append, List.length_set, List.append_assoc, List.set_set]
      exact ⟨fun i hi => by rw [hrow i hi]; rfl, hrow⟩
    obtain ⟨rfl, rfl⟩ := hR
    refine AX_of_hax cx_ok hb ?_
    simp only [go_sem, simprocAttr, hgetA, hgetL, hgetLk, hsetA, hsetL, hsetLk, List.length_append, List.length_set, List.append_assoc, List.set_set]
    exact ⟨_, rfl⟩
  · have hx3 : ExtF F (F ++ ([⟨.one, 0, 3, 1, fun _ => x.cells⟩, ⟨.arr, 0, 3, 1, fun _ => x.cells⟩] : List Ob)) := ⟨_, rfl⟩
    have hre := hreals_ok _ t m c T hlen (ro_get (hx3.get ht)) (roro_get (hx3.get hm)) hn
    rw [← hM] at hre
    refine AX_callR0 hb fn28 rfl ?_ hre rfl fun d hR => ?_
    · simp only [go_sem, simprocAttr]
    subst hR
    refine AX_of_hax cx_ok hb ?_
    simp only [go_sem, simprocAttr, hgetA, hgetL, hgetLk, hsetA, hsetL, hsetLk, List.length_append, List.length_set, List.append_assoc, List.set_set]
    refine AX_callR hb fn30 rfl ?_ hcon rfl fun d g hR => ?_
    · simp only [go_sem, simprocAttr]
    obtain ⟨gn, row, rfl, rfl, hrow⟩ := hR
    refine AX_of_hax cx_ok hb ?_
    simp only [go_sem, simprocAttr, hgetA, hgetL, hgetLk, hsetA, hsetL, hsetLk, List.length_append, List.length_set, List.append_assoc, List.set_set]
    refine AX_call hb fn29 rfl ?_ hfi (Ret.flat rfl) rfl fun d h hR => ?_
    · simp only [go_sem, simprocAttr, hgetA, hgetL, hgetLk, hsetA, hsetL, hsetLk, List.length_append, List.length_set, List.append_assoc, List.set_set]
      exact ⟨fun i hi => by rw [hrow i hi]; rfl, hrow⟩
    obtain ⟨rfl, rfl⟩ := hR
    refine AX_of_hax cx_ok hb ?_
    simp only [go_sem, simprocAttr, hgetA, hgetL, hgetLk, hsetA, hsetL, hsetLk, List.length_append, List.length_set, List.append_assoc, List.set_set]
    exact ⟨_, rfl⟩
end
theorem proomN_ok (n : Int) : AFn Tryz.prog 11 [.raw (.pointer none), dint n] (Ret (.tup [u64 0, dint 7])) := by
  refine AFn_hxk 0 cx_ok 200 Tryz.func11 rfl Tryz.ntmps11 Tryz.results11 rfl fun base w hb => ?_
  simp only [go_sem, simprocAttr]
theorem padmitsN_ok (n : Int) (x : Nc) : AFn Tryz.prog 12 [.raw (.pointer none), dint n, dnc x] (Ret (dbool false)) := by
  refine AFn_hxk 0 cx_ok 200 Tryz.func12 rfl Tryz.ntmps12 Tryz.results12 rfl fun base w hb => ?_
  simp only [go_sem, simprocAttr]
  refine kont_haxF cx_ok hb 200 mixed [(0, true), (1, true), (2, true), (3, true), (4, true), (6, true)] [5, 7, 8, 9, 10, 11, 12, 13] (by kernel_rfl) (by kernel_rfl) ?_
  simp only [go_sem, simprocAttr]
end Go.Fg.X
namespace Go.Fg.X
open Go.Proofs Go.Fg
set_option maxRecDepth 100000
set_option maxHeartbeats 4000000
set_option linter.unusedSimpArgs false
set_option linter.unusedVariables false
section
variable (h : List Ob) (t m c : Nat) {es : List Ent} {L : List Kls} (T : TreeIs es L) (hlen : L.length < 1000000) (hE : ∀ n, Ends L 16 n)
  (ht : (h.map Ob.ro)[t]? = some ⟨.rone, 0, 1, 1, fun _ => [.mref m 0]⟩) (hm : (h.map Ob.ro)[m]? = some (mapOb .i64 c es).ro)
include T ht hm hE hlen
end
end Go.Fg.X
namespace Go.Fg.X
open Go.Proofs Go.Fg
set_option maxRecDepth 100000
set_option maxHeartbeats 4000000
set_option linter.unusedSimpArgs false
set_option linter.unusedVariables false
@[go_sem] def dchg (c : Chg) : D := .agg c.cells
/-- A change, of the reference's list. -/
def oneRE (L : List Kls) (c : Chg) : Int := if c.kind = 1 then addRE L c.cls else if c.kind = 2 then delRE L c.cls.iD else if c.kind = 3 then setRE L c.cls else 1
def oneRL (L : List Kls) (c : Chg) : List Kls := if oneRE L c = 0 then (if c.kind = 2 then delC L c.cls.iD else putOut L c.cls) else L
theorem rtone_ok (L : List Kls) (c : Chg) (hl : L.length < 1000000) (hn : ∀ c ∈ L, c.Nn) (hx : c.cls.Nn) : AFn Tryz.prog 9 [kls L, dchg c] (Ret (.agg [kls (oneRL L c), dint (oneRE L c)])) := by
  refine AFn_hxk 0 cx_ok 200 Tryz.func9 rfl Tryz.ntmps9 Tryz.results9 rfl fun base w hb => ?_
  simp only [go_sem, simprocAttr]
  repeat' (first | ((first | refine hite_dec (fun h => ?_) (fun h => ?_) | refine hite_beq (fun h => ?_) (fun h => ?_) | refine hite_bne (fun h => ?_) (fun h => ?_) | refine hite_intro (fun h => ?_) (fun h => ?_) | refine hite_decA (fun h => ?_) (fun h => ?_) | refine hite_beqA (fun h => ?_) (fun h => ?_) | refine hite_bneA (fun h => ?_) (fun h => ?_) | refine hite_intro' (fun h => ?_) (fun h => ?_)) <;> (try simp only [go_sem, simprocAttr, Go.undef])) | (refine And.intro (by first | assumption | omega) ?_; try simp only [go_sem, simprocAttr, Go.undef]) | (refine kont_callM hb [] fn23 rfl ?_ (rtadd_ok L c.cls hl hn hx) rfl ?_; (· simp only [go_sem, simprocAttr, Go.undef]); intro d h hR; obtain ⟨rfl, rfl⟩ := hR; (simp only [go_sem, simprocAttr, Go.undef]); refine kont_of_hx cx_ok hb 200 ?_; simp only [go_sem, simprocAttr, Go.undef]) | (refine kont_callM hb [] fn24 rfl ?_ (rtdel_ok L c.cls.iD hl) rfl ?_; (· simp only [go_sem, simprocAttr, Go.undef]); intro d h hR; obtain ⟨rfl, rfl⟩ := hR; (simp only [go_sem, simprocAttr, Go.undef]); refine kont_of_hx cx_ok hb 200 ?_; simp only [go_sem, simprocAttr, Go.undef]) | (refine kont_callM hb [] fn25 rfl ?_ (rtset_ok L c.cls hl hn hx) rfl ?_; (· simp only [go_sem, simprocAttr, Go.undef]); intro d h hR; obtain ⟨rfl, rfl⟩ := hR; (simp only [go_sem, simprocAttr, Go.undef]); refine kont_of_hx cx_ok hb 200 ?_; simp only [go_sem, simprocAttr, Go.undef]) | fail)
  all_goals simp_all [oneRL, oneRE]
end Go.Fg.X
namespace Go.Fg.X
open Go.Proofs Go.Fg
set_option maxRecDepth 100000
set_option maxHeartbeats 4000000
set_option linter.unusedSimpArgs false
set_option linter.unusedVariables false
/-! What the tree and the reference's list have in common. -/
structure InvL (L : List Kls) (n : Nat) : Prop where
  tree : TreeInv L
  nn : ∀ c ∈ L, c.Nn
  len : L.length ≤ n
theorem findI_neg {L : List Kls} {k : Int} : findI L k < 0 ↔ findC L k = none := by
  rcases findI_cases L k with ⟨h1, h2⟩ | ⟨i, hi, h1, h2⟩
  · rw [h1, h2]; simp
  · rw [h1, h2]; simp
theorem up70 {L : List Kls} {n : Nat} (I : InvL L n) (id : Int) : upF L 70 id = upF L 16 id := upF_le (I.tree.ends id) (by decide)
theorem add_same {L : List Kls} {n : Nat} (I : InvL L n) (x : Kls) : addE L x (upF L 16 x.parent).length = addRE L x := by
  have h1 := findI_neg (L := L) (k := x.iD)
  have h2 := findI_neg (L := L) (k := x.parent)
  have h3 := upF_len (L := L) (n := 16) (id := x.parent)
  unfold addE addRE
  rw [wrong_right, up70 I]
  have e1 : ((findC L x.iD).isSome = true) = (0 ≤ findI L x.iD) := by
    rw [eq_iff_iff]
    cases hf : findC L x.iD with
    | none => rw [hf] at h1; simp at h1 ⊢; exact h1
    | some c => rw [hf] at h1; simp at h1 ⊢; exact h1
  have e2 : ((x.parent ≠ 0 ∧ (findC L x.parent).isNone = true) ∨ ((findC L x.parent).getD default).leaf = true) = (x.parent ≠ 0 ∧ (findI L x.parent < 0 ∨ ((findC L x.parent).getD default).leaf = true)) := by
    rw [eq_iff_iff, h2]
    cases hf : findC L x.parent with
    | none => simp [default, instInhabitedKls]
    | some c =>
      have h0 : x.parent ≠ 0 := by
        intro h0
        obtain ⟨m1, m2⟩ := (findC_iff I.tree.rising).1 hf
        have := I.tree.ids c m1
        omega
      simp [h0]
  have e3 : ((upF L 16 x.parent).length = 16) = (16 ≤ (upF L 16 x.parent).length) := by rw [eq_iff_iff]; omega
  simp only [e1, e2, e3]
theorem del_same {L : List Kls} (k : Int) : delE L k = delRE L k := by
  have h1 := findI_neg (L := L) (k := k)
  unfold delE delRE
  have e1 : ((findC L k).isNone = true) = (findI L k < 0) := by rw [h1, eq_iff_iff]; simp
  simp only [e1]
theorem child_id {L : List Kls} (I : TreeInv L) {k id : Int} (h : id ∈ childC L k) : id ≠ 0 := by
  simp only [childC, List.mem_map, List.mem_filter] at h
  obtain ⟨c, ⟨h1, _⟩, rfl⟩ := h
  have := I.ids c h1
  omega
theorem any_congr {α : Type} {p q : α → Bool} : ∀ {l : List α}, (∀ a ∈ l, p a = q a) → l.any p = l.any q
  | [], _ => rfl
  | a :: l, h => by rw [List.any_cons, List.any_cons, h a (by simp), any_congr fun b hb => h b (by simp [hb])]
theorem set_same {L : List Kls} {n : Nat} (I : InvL L n) (x : Kls) : setE L x = setRE L x := by
  have h1 := findI_neg (L := L) (k := x.iD)
  unfold setE setRE
  rw [wrong_right]
  have e1 : ((findC L x.iD).isNone = true) = (findI L x.iD < 0) := by rw [h1, eq_iff_iff]; simp
  have e2 : (x.parent ≠ ((findC L x.iD).getD default).parent ∨ x.leaf ≠ ((findC L x.iD).getD default).leaf) = (¬ (((findC L x.iD).getD default).parent = x.parent ∧ ((findC L x.iD).getD default).leaf = x.leaf)) := by
    rw [eq_iff_iff, Decidable.not_and_iff_not_or_not]
    constructor <;> rintro (h | h)
    · exact .inl fun e => h e.symm
    · exact .inr fun e => h e.symm
    · exact .inl fun e => h e.symm
    · exact .inr fun e => h e.symm
  have e3 : ((childC L x.iD).any (sharing L)) = ((childC L x.iD).any fun id => sharesC L id) := any_congr fun a ha => by
    have := child_id I.tree ha
    simp [sharesC, sharing, this]
  simp only [e1, e2, e3]
  by_cases a1 : rightV x ≠ 0
  · simp [a1]
  by_cases a2 : findI L x.iD < 0
  · simp [a2]
  by_cases a3 : 1 < ofI x.ls ∧ sharesC L x.parent = false
  · simp [a3]
  · simp [a3]
theorem putC_len {L : List Kls} (h : Rising L) (x : Kls) : (putC L x).length ≤ L.length + 1 := by
  have h1 := (putC_perm x h).length_eq
  have h2 := List.length_filter_le (fun c : Kls => c.iD != x.iD) L
  simp only [List.length_cons] at h1
  rw [h1]
  exact Nat.succ_le_succ h2
theorem one_inv {L : List Kls} {n : Nat} (I : InvL L n) {c : Chg} (hc : c.cls.Nn) : InvL (oneRL L c) (n + 1) := by
  have same : InvL L (n + 1) := ⟨I.tree, I.nn, by have := I.len; omega⟩
  have hput : ∀ J : TreeInv (putC L c.cls), InvL (putC L c.cls) (n + 1) := fun J =>
    ⟨J, fun d hd => by
      rcases mem_put I.tree.rising _ hd with rfl | h
      · exact hc
      · exact I.nn d h, by have := putC_len I.tree.rising c.cls; have := I.len; omega⟩
  unfold oneRL
  split
  · rename_i h0
    split
    · rename_i hk
      have e : delE L c.cls.iD = 0 := by rw [del_same]; rw [oneRE, if_neg (by omega), if_pos hk] at h0; exact h0
      have hch : childC L c.cls.iD = [] := by
        unfold delE at e
        split at e
        · cases e
        · split at e
          · cases e
          · rename_i h; simpa using h
      exact ⟨I.tree.del hch, fun d hd => I.nn d (List.mem_filter.1 hd).1, by
        have := List.length_filter_le (fun d : Kls => d.iD != c.cls.iD) L
        have := I.len
        simp only [delC]; omega⟩
    · rename_i hk
      rw [putOut_eq I.tree.rising]
      by_cases h1 : c.kind = 1
      · have e : addE L c.cls (upF L 16 c.cls.parent).length = 0 := by rw [add_same I]; rw [oneRE, if_pos h1] at h0; exact h0
        unfold addE at e
        repeat' split at e
        all_goals try (cases e; done)
        all_goals try contradiction
        rename_i a1 a2 a3 a4 a5 a6
        refine hput (I.tree.add (by simpa using a1) ?_ ?_ a6)
        · cases hf : findC L c.cls.iD with
          | none => rfl
          | some _ => rw [hf] at a2; simp at a2
        · by_cases hp : c.cls.parent = 0
          · exact .inl hp
          · refine .inr ?_
            cases hf : findC L c.cls.parent with
            | none => exact absurd (.inl ⟨hp, by rw [hf]; rfl⟩) a4
            | some _ => rfl
      · by_cases h3 : c.kind = 3
        · have e : setE L c.cls = 0 := by rw [set_same I]; rw [oneRE, if_neg h1, if_neg hk, if_pos h3] at h0; exact h0
          unfold setE at e
          repeat' split at e
          all_goals try (cases e; done)
          all_goals try contradiction
          rename_i a1 a2 a3 a4
          cases hf : findC L c.cls.iD with
          | none => rw [hf] at a2; simp at a2
          | some y =>
            refine hput (I.tree.set (by simpa using a1) hf ?_)
            rw [hf] at a3
            simp at a3
            exact a3.1
        · rw [oneRE, if_neg h1, if_neg hk, if_neg h3] at h0; cases h0
  · exact same
end Go.Fg.X
namespace Go.Fg.X
open Go.Proofs Go.Fg
set_option maxRecDepth 100000
set_option maxHeartbeats 4000000
set_option linter.unusedSimpArgs false
set_option linter.unusedVariables false
end Go.Fg.X
namespace Go.Fg.X
open Go.Proofs Go.Fg
set_option maxRecDepth 100000
set_option maxHeartbeats 4000000
set_option linter.unusedSimpArgs false
set_option linter.unusedVariables false
@[go_sem] def chgs (l : List Chg) : D := .imm 15 l.length (Chg.rows l)
def treeF (base : List Chg) (i : Nat) : List Kls := (base.take i).foldl oneRL []
theorem treeF_succ (base : List Chg) (i : Nat) (h : i < base.length) : treeF base (i + 1) = oneRL (treeF base i) (base.getD i default) := by
  unfold treeF
  rw [List.take_add_one, List.getElem?_eq_getElem h, Option.toList_some, List.foldl_append, List.getD_eq_getElem?_getD, List.getElem?_eq_getElem h]
  rfl
theorem treeF_inv {base : List Chg} (hk : ∀ a ∈ base, a.cls.Nn) : ∀ i, i ≤ base.length → InvL (treeF base i) i
  | 0, _ => ⟨by simp [treeF]; exact TreeInv.nil, by simp [treeF], by simp [treeF]⟩
  | i + 1, h => by
    have hi : i < base.length := by omega
    rw [treeF_succ base i hi]
    refine one_inv (treeF_inv hk i (by omega)) (hk _ ?_)
    rw [List.getD_eq_getElem?_getD, List.getElem?_eq_getElem hi]
    exact List.getElem_mem hi
structure SbI (bs : List Chg) (id : Int) (i : Nat) (s : St) : Prop where
  ex : ∃ c es H, H[1]? = some ⟨.one, 0, 1, 1, fun _ => [.mref 0 0]⟩ ∧ H[0]? = some (mapOb .i64 c es) ∧ TreeIs es (treeF bs i) ∧
    s = ⟨[(1, dint id), (5, .ptr 1 0 0 0), (6, kls (treeF bs i)), (14, chgs bs), (15, dint bs.length), (16, dint i)], H⟩
theorem wf_nn {n : Int} (h : (Lit.int .u64 n).wf = true) : 0 ≤ n := by
  exact (wf_u64 h).1
theorem cv_nn {c : Cv} (h : Cv.Ok c) : c.Nn := ⟨wf_nn h.1, wf_nn h.2.1, wf_nn h.2.2.1⟩
theorem kls_nn {c : Kls} (h : Kls.Ok c) : c.Nn := ⟨cv_nn h.2.2.2.1, cv_nn h.2.2.2.2.1, cv_nn h.2.2.2.2.2.1⟩
theorem chg_nn {c : Chg} (h : Chg.Ok c) : c.cls.Nn := kls_nn h.2.1
end Go.Fg.X
namespace Go.Fg.X
open Go.Proofs Go.Fg
set_option maxRecDepth 100000
set_option maxHeartbeats 4000000
set_option linter.unusedSimpArgs false
set_option linter.unusedVariables false
@[go_sem] def dev (e : Ev) : D := .agg e.cells
def cameB (f t : Nat) (e : Ev) : Bool := e.inn && (decide ((f : Int) ≤ e.at_) && decide (e.at_ ≤ (t : Int)))
theorem came1_ok (h : List Ob) (b1 b2 f t : Nat) (e : Ev) (h1 : (h.map Ob.ro)[b1]? = some ⟨.rone, 0, 1, 1, fun _ => [u64 f]⟩) (h2 : (h.map Ob.ro)[b2]? = some ⟨.rone, 0, 1, 1, fun _ => [u64 t]⟩) :
    RFn0 Tryz.prog 71 h [dev e, .ptr b1 0 0 0, .ptr b2 0 0 0] (fun d => d = dbool (cameB f t e)) := by
  refine RFn0_hx cx_ok 200 Tryz.func71 rfl Tryz.ntmps71 Tryz.results71 rfl fun base w pl F hF hFl hb => ?_
  rw [← hF] at h1 h2
  have h1_l := hlt h1
  have h2_l := hlt h2
  simp only [go_sem, simprocAttr, hgetA, hgetL, hgetLk, hsetA, hsetL, hsetLk, List.length_append, List.length_set, List.append_assoc, List.set_set, h1, h1_l, h2, h2_l]
  repeat' (first | ((first | refine hite_dec (fun h => ?_) (fun h => ?_) | refine hite_beq (fun h => ?_) (fun h => ?_) | refine hite_bne (fun h => ?_) (fun h => ?_) | refine hite_intro (fun h => ?_) (fun h => ?_) | refine hite_decA (fun h => ?_) (fun h => ?_) | refine hite_beqA (fun h => ?_) (fun h => ?_) | refine hite_bneA (fun h => ?_) (fun h => ?_) | refine hite_intro' (fun h => ?_) (fun h => ?_)) <;> (try simp only [go_sem, simprocAttr, Go.undef, hgetA, hgetL, hgetLk, hsetA, hsetL, hsetLk, List.length_append, List.length_set, List.append_assoc, List.set_set, h1, h2, h1_l, h2_l])) | (refine And.intro (by first | assumption | omega) ?_; try simp only [go_sem, simprocAttr, Go.undef, hgetA, hgetL, hgetLk, hsetA, hsetL, hsetLk, List.length_append, List.length_set, List.append_assoc, List.set_set, h1, h2, h1_l, h2_l]) | fail)
  all_goals (refine ⟨_, rfl, ?_⟩; congr 2; first | (simp [cameB, *]; done) | (simp only [cameB, *]; simp; done))
/-- What a function value tells of an event, whatever is lent to it. -/
def TellsE (F : List Ob) (f nf : Nat) (caps : List D) (g : Ev → Bool) : Prop := ∀ (h : List Ob) (e : Ev), ExtF F h → RFn0 Tryz.prog f h (argsD nf caps [dev e]) (fun d => d = dbool (g e))
def byF (cl : List Int) (g : Ev → Bool) (s : Nat) (e : Ev) : Nat := if (g e && cl.contains e.cls) = true then (s + e.len.toNat) % 18446744073709551616 else s
def byS (l : List Ev) (cl : List Int) (g : Ev → Bool) : Nat := l.foldl (byF cl g) 0
theorem byF_lt {cl : List Int} {g : Ev → Bool} : ∀ {l : List Ev} {s : Nat}, s < 18446744073709551616 → l.foldl (byF cl g) s < 18446744073709551616
  | [], s, h => h
  | e :: l, s, h => byF_lt (l := l) (by unfold byF; split <;> omega)
theorem foldl_succ {α β : Type} [Inhabited α] (f : β → α → β) (b : β) (l : List α) (i : Nat) (h : i < l.length) : (l.take (i + 1)).foldl f b = f ((l.take i).foldl f b) (l.getD i default) := by
  rw [List.take_add_one, List.getElem?_eq_getElem h, Option.toList_some, List.foldl_append, List.getD_eq_getElem?_getD, List.getElem?_eq_getElem h]
  rfl
theorem getD_memA {α : Type} [Inhabited α] {l : List α} {i : Nat} (h : i < l.length) : l.getD i default ∈ l := by
  rw [List.getD_eq_getElem?_getD, List.getElem?_eq_getElem h]; exact List.getElem_mem h
structure ByI (l : List Ev) (cl : List Int) (so : D) (g : Ev → Bool) (F : List Ob) (i : Nat) (s : St) : Prop where
  ex : ∃ H, ExtF F H ∧ s = ⟨[(0, evs l), (1, ints cl), (2, so), (7, u64 ((l.take i).foldl (byF cl g) 0)), (10, evs l), (11, dint l.length), (12, dint i)], H⟩
theorem bytes_ok (h : List Ob) (l : List Ev) (cl : List Int) (hl : l.length < 2147483648) (hc : cl.length < 2147483648) (ho : ∀ e ∈ l, e.Ok) (so : D) (f nf : Nat) (caps : List D) (hf : FnOk Tryz.prog f) (hso : calleeD so = some (f, nf, caps)) (g : Ev → Bool)
    (hg : TellsE (h.map Ob.ro) f nf caps g) : RFn0 Tryz.prog 70 h [evs l, ints cl, so] (fun d => d = u64 (byS l cl g)) := by
  refine RFn0_hx cx_ok 200 Tryz.func70 rfl Tryz.ntmps70 Tryz.results70 rfl fun base w pl F hF hFl hb => ?_
  simp only [go_sem, simprocAttr, hgetA, hgetL, hgetLk, hsetA, hsetL, hsetLk, List.length_append, List.length_set, List.append_assoc, List.set_set]
  refine kont_for (ByI l cl so g F) l.length (s0 := ⟨[(0, evs l), (1, ints cl), (2, so), (7, u64 0), (10, evs l), (11, dint l.length), (12, dint 0)], F⟩) (Weak.frame (by simp only [go_sem, simprocAttr])) ⟨F, ExtF.refl F, rfl⟩ ?_
  rintro i s hi ⟨H, hx, rfl⟩
  have hwr := wrap_succ (show i < 4611686018427387904 by omega)
  obtain ⟨S, hS⟩ : ∃ S, S = (l.take i).foldl (byF cl g) 0 := ⟨_, rfl⟩
  have hSl : S < 18446744073709551616 := by rw [hS]; exact byF_lt (by decide)
  rw [← hS]
  refine kont_of_hx cx_ok hb 200 ?_
  simp only [go_sem, simprocAttr, hgetA, hgetL, hgetLk, hsetA, hsetL, hsetLk, List.length_append, List.length_set, List.append_assoc, List.set_set]
  first | refine hite_lt hi (fun hk1 => ?_) (fun hk1 => ?_) | refine hite_ltI hi (fun hk1 => ?_) (fun hk1 => ?_)
  · obtain ⟨e, he⟩ : ∃ e, e = l.getD i default := ⟨_, rfl⟩
    have heo : e.Ok := ho e (by rw [he]; exact getD_memA hk1)
    have hlen := wf_i64 heo.2.2.2.2.2.1
    have hst := foldl_succ (byF cl g) 0 l i hk1
    rw [← hS, ← he] at hst
    simp only [go_sem, simprocAttr, hgetA, hgetL, hgetLk, hsetA, hsetL, hsetLk, List.length_append, List.length_set, List.append_assoc, List.set_set, hk1, ← he]
    refine kont_callR0 hb hf hso ?_ (hg _ e (by rw [← hF]; exact hx.app _)) rfl fun d2 hR => ?_
    · simp only [go_sem, simprocAttr]
      exact argsEq_refl _
    subst hR
    refine kont_of_hx cx_ok hb 200 ?_
    simp only [go_sem, simprocAttr, hgetA, hgetL, hgetLk, hsetA, hsetL, hsetLk, List.length_append, List.length_set, List.append_assoc, List.set_set]
    cases hge : g e
    · have hst2 : byF cl g S e = S := by rw [byF, hge, if_neg (by simp)]
      simp only [go_sem, simprocAttr, hgetA, hgetL, hgetLk, hsetA, hsetL, hsetLk, List.length_append, List.length_set, List.append_assoc, List.set_set, Go.undef]
      refine ⟨hk1, _, Weak.frame (fr' := [(0, evs l), (1, ints cl), (2, so), (7, u64 (byF cl g S e)), (10, evs l), (11, dint l.length), (12, dint (i + 1 : Nat))]) (by simp only [go_sem, simprocAttr, hwr, hst2]), ⟨_, ?_, by rw [hst]⟩⟩
      exact hx.app _
    · simp only [go_sem, simprocAttr, hgetA, hgetL, hgetLk, hsetA, hsetL, hsetLk, List.length_append, List.length_set, List.append_assoc, List.set_set, Go.undef]
      refine kont_call hb fn97 rfl ?_ (SP.contains_ok cl e.cls hc) (Ret.flat rfl) rfl fun d h hR => ?_
      · simp only [go_sem, simprocAttr, hgetA, hgetL, hgetLk, hsetA, hsetL, hsetLk, List.length_append, List.length_set, List.append_assoc, List.set_set]
      obtain ⟨rfl, rfl⟩ := hR
      refine kont_of_hx cx_ok hb 200 ?_
      simp only [go_sem, simprocAttr, hgetA, hgetL, hgetLk, hsetA, hsetL, hsetLk, List.length_append, List.length_set, List.append_assoc, List.set_set]
      cases hce : cl.contains e.cls
      · have hst2 : byF cl g S e = S := by rw [byF, hge, hce, if_neg (by simp)]
        simp only [go_sem, simprocAttr, hgetA, hgetL, hgetLk, hsetA, hsetL, hsetLk, List.length_append, List.length_set, List.append_assoc, List.set_set, Go.undef]
        refine ⟨hk1, _, Weak.frame (fr' := [(0, evs l), (1, ints cl), (2, so), (7, u64 (byF cl g S e)), (10, evs l), (11, dint l.length), (12, dint (i + 1 : Nat))]) (by simp only [go_sem, simprocAttr, hwr, hst2]), ⟨_, ?_, by rw [hst]⟩⟩
        exact hx.app _
      · have hst2 : byF cl g S e = (S + e.len.toNat) % 18446744073709551616 := by rw [byF, hge, hce, if_pos (by simp)]
        have hmx : IntKind.u64.wrap (max e.len 0) = ((e.len.toNat : Nat) : Int) := by rw [IntKind.wrap_u64]; omega
        have hwa := wu_add S e.len.toNat
        simp only [go_sem, simprocAttr, hgetA, hgetL, hgetLk, hsetA, hsetL, hsetLk, List.length_append, List.length_set, List.append_assoc, List.set_set, Go.undef, hmx, hwa]
        refine ⟨hk1, _, Weak.frame (fr' := [(0, evs l), (1, ints cl), (2, so), (7, u64 (byF cl g S e)), (10, evs l), (11, dint l.length), (12, dint (i + 1 : Nat))]) (by simp only [go_sem, simprocAttr, hwr, hst2]), ⟨_, ?_, by rw [hst]⟩⟩
        exact hx.app _
  · subst hk1
    rw [List.take_length] at hS
    have e : byS l cl g = S := hS.symm
    rw [e]
    refine kont_of_hx cx_ok hb 200 ?_
    simp only [go_sem, simprocAttr, hgetA, hgetL, hgetLk, hsetA, hsetL, hsetLk, List.length_append, List.length_set, List.append_assoc, List.set_set]
    exact hx
def camV (l : List Ev) (cl : List Int) (f t : Nat) : Nat := byS l cl (cameB f t)
theorem camV_lt (l : List Ev) (cl : List Int) (f t : Nat) : camV l cl f t < 18446744073709551616 := byF_lt (by decide)
theorem tcame_ok (l : List Ev) (cl : List Int) (f t : Nat) (hl : l.length < 2147483648) (hc : cl.length < 2147483648) (ho : ∀ e ∈ l, e.Ok) : AFn Tryz.prog 37 [evs l, ints cl, u64 f, u64 t] (Ret (u64 (camV l cl f t))) := by
  refine AFn_hxk 0 cx_ok 200 Tryz.func37 rfl Tryz.ntmps37 Tryz.results37 rfl fun base w hb => ?_
  simp only [go_sem, simprocAttr]
  have hT : TellsE (([⟨.one, 0, 1, 1, fun _ => [u64 f]⟩, ⟨.one, 0, 1, 1, fun _ => [u64 t]⟩] : List Ob).map Ob.ro) 71 0 [.ptr 0 0 0 0, .ptr 1 0 0 0] (cameB f t) := fun h' e hx => by
    obtain ⟨g, rfl⟩ := hx
    exact came1_ok _ 0 1 f t e rfl rfl
  refine kont_callR0 hb fn70 rfl ?_ (bytes_ok _ l cl hl hc ho (.clo 71 0 [.ptr 0 0 0 0, .ptr 1 0 0 0]) 71 0 [.ptr 0 0 0 0, .ptr 1 0 0 0] fn71 rfl (cameB f t) hT) rfl fun d2 hR => ?_
  · simp only [go_sem, simprocAttr]
  subst hR
  refine kont_of_hx cx_ok hb 200 ?_
  simp only [go_sem, simprocAttr]
  rfl
end Go.Fg.X
namespace Go.Fg.X.SP
open Go.Proofs Go.Fg
set_option maxRecDepth 100000
set_option linter.unusedSimpArgs false
set_option linter.unusedVariables false
@[go_sem] def u64c (n : Int) : List D := [.raw (.int .u64 n)]
@[go_sem] def i64c (n : Int) : List D := [.raw (.int .i64 n)]
end Go.Fg.X.SP
namespace Go.Fg.X.SP
open Go.Proofs Go.Fg
set_option maxRecDepth 100000
set_option linter.unusedSimpArgs false
set_option linter.unusedVariables false
theorem c2 : ((2 : Nat) : Int) = 2 := rfl
end Go.Fg.X.SP
namespace Go.Fg.X.SP
open Go.Proofs Go.Fg
set_option maxRecDepth 100000
set_option linter.unusedSimpArgs false
set_option linter.unusedVariables false
structure Good (l : List Ev) (out : List Sp) (k n : Nat) : Prop where
  a : ∀ i, i < out.length → ∃ f : Nat, (out.getD i default).fst = f ∧ f < k ∧ (out.getD i default).frm = (l.getD f default).at_ ∧
    ((out.getD i default).opn = false → ∃ t : Nat, (out.getD i default).lst = t ∧ f < t ∧ t < k ∧ (out.getD i default).to = (l.getD t default).at_)
  b : ∀ i, i + 1 < out.length → (out.getD i default).opn = false ∧ (out.getD i default).lst < (out.getD (i + 1) default).fst
  c : 0 < n ↔ 0 < out.length ∧ (out.getD (out.length - 1) default).opn = true
theorem good (lv : List Int) (l : List Ev) : ∀ k, Good l (spAt lv l k) k (lenAt lv l k)
  | 0 => ⟨fun i h => by simp [spAt] at h, fun i h => by simp [spAt] at h, by simp [spAt, lenAt]⟩
  | k + 1 => by
    have G := good lv l k
    have mono : ∀ i, i < (spAt lv l k).length → ∃ f : Nat, ((spAt lv l k).getD i default).fst = f ∧ f < k + 1 ∧ ((spAt lv l k).getD i default).frm = (l.getD f default).at_ ∧
        (((spAt lv l k).getD i default).opn = false → ∃ t : Nat, ((spAt lv l k).getD i default).lst = t ∧ f < t ∧ t < k + 1 ∧ ((spAt lv l k).getD i default).to = (l.getD t default).at_) := fun i hi => by
      obtain ⟨f, h1, h2, h3, h4⟩ := G.a i hi
      exact ⟨f, h1, by omega, h3, fun e => let ⟨t, t1, t2, t3, t4⟩ := h4 e; ⟨t, t1, t2, by omega, t4⟩⟩
    have G := G
    simp only [spAt, lenAt, spStep]
    generalize spAt lv l k = out at *
    generalize lenAt lv l k = n at *
    generalize lenN n (l.getD k default) lv = m at *
    by_cases h1 : n = 0 ∧ 0 < m
    · rw [if_pos h1]
      have hc : ¬ (0 < out.length ∧ (out.getD (out.length - 1) default).opn = true) := fun h => by have := G.c.2 h; omega
      refine ⟨fun i hi => ?_, fun i hi => ?_, ?_⟩
      · by_cases hi2 : i < out.length
        · rw [getD_lt _ _ _ _ hi2]; exact mono i hi2
        · have : i = out.length := by simp at hi; omega
          subst this
          rw [getD_end]
          exact ⟨k, rfl, by omega, rfl, fun e => by cases e⟩
      · simp only [List.length_append, List.length_cons, List.length_nil] at hi
        rw [getD_lt _ _ _ _ (by omega)]
        by_cases hi2 : i + 1 < out.length
        · rw [getD_lt _ _ _ _ hi2]; exact G.b i hi2
        · have e : i + 1 = out.length := by omega
          rw [e, getD_end]
          have hop : (out.getD i default).opn = false := by
            cases ho : (out.getD i default).opn
            · rfl
            · exact absurd ⟨by omega, by rw [show out.length - 1 = i by omega]; exact ho⟩ hc
          obtain ⟨f, h1, h2, h3, h4⟩ := G.a i (by omega)
          obtain ⟨t, t1, t2, t3, t4⟩ := h4 hop
          exact ⟨hop, by rw [t1]; simp; omega⟩
      · simp only [List.length_append, List.length_cons, List.length_nil, Nat.add_sub_cancel, Nat.zero_add]
        rw [getD_end]
        exact ⟨fun _ => ⟨by omega, rfl⟩, fun _ => h1.2⟩
    · rw [if_neg h1]
      by_cases h2 : 0 < n ∧ m = 0
      · rw [if_pos h2]
        obtain ⟨c1, c2⟩ := G.c.1 h2.1
        obtain ⟨f, f1, f2, f3, f4⟩ := G.a (out.length - 1) (by omega)
        refine ⟨fun i hi => ?_, fun i hi => ?_, ?_⟩
        · rw [List.length_set] at hi
          by_cases hi2 : i = out.length - 1
          · subst hi2
            rw [getD_set_eq _ _ _ _ (by omega)]
            exact ⟨f, f1, by omega, f3, fun _ => ⟨k, rfl, f2, by omega, rfl⟩⟩
          · rw [getD_set_ne' _ _ _ _ _ (Ne.symm hi2)]; exact mono i hi
        · rw [List.length_set] at hi
          rw [getD_set_ne' _ _ _ _ _ (show out.length - 1 ≠ i by omega)]
          by_cases hi2 : i + 1 = out.length - 1
          · rw [hi2, getD_set_eq _ _ _ _ (by omega)]
            have := G.b i hi
            rw [hi2] at this
            exact this
          · rw [getD_set_ne' _ _ _ _ _ (Ne.symm hi2)]; exact G.b i hi
        · rw [List.length_set, getD_set_eq _ _ _ _ (by omega)]
          exact ⟨fun h => by omega, fun h => by cases h.2⟩
      · rw [if_neg h2]
        refine ⟨mono, G.b, ?_⟩
        rw [← G.c]; omega
end Go.Fg.X.SP
namespace Go.Fg.X.SP
open Go.Proofs Go.Fg
set_option maxRecDepth 100000
set_option linter.unusedSimpArgs false
set_option linter.unusedVariables false
def isOpenAt (lv : List Int) (l : List Ev) (i : Nat) : Nat → Sp
  | 0 => ⟨(l.getD i default).at_, 0, i, 0, true⟩
  | k + 1 => if i < k ∧ (isOpenAt lv l i k).opn = true ∧ lenAt lv l (k + 1) = 0 then ⟨(l.getD i default).at_, (l.getD k default).at_, i, k, false⟩ else isOpenAt lv l i k
end Go.Fg.X.SP
namespace Go.Fg.X.SP
set_option linter.unusedSimpArgs false
set_option linter.unusedVariables false
open Go.Proofs Go.Fg
set_option maxRecDepth 100000
theorem isOpen_at (lv : List Int) (l : List Ev) (i : Nat) : ∀ j, (isOpenAt lv l i j).frm = (l.getD i default).at_ ∧ (isOpenAt lv l i j).fst = i
  | 0 => ⟨rfl, rfl⟩
  | j + 1 => by simp only [isOpenAt]; split; exact ⟨rfl, rfl⟩; exact isOpen_at lv l i j
theorem isOpen_init (lv : List Int) (l : List Ev) (i : Nat) : ∀ j, j ≤ i + 1 → isOpenAt lv l i j = ⟨(l.getD i default).at_, 0, i, 0, true⟩
  | 0, _ => rfl
  | j + 1, h => by simp only [isOpenAt]; rw [if_neg (by omega)]; exact isOpen_init lv l i j (by omega)
def starts (lv : List Int) (l : List Ev) : Nat → List Nat
  | 0 => []
  | i + 1 => if 0 < lenAt lv l i ∨ lenAt lv l (i + 1) = 0 then starts lv l i else starts lv l i ++ [i]
theorem starts_lt (lv : List Int) (l : List Ev) : ∀ k, ∀ a ∈ starts lv l k, a < k
  | 0, a, h => by simp [starts] at h
  | k + 1, a, h => by
    simp only [starts] at h
    split at h
    · have := starts_lt lv l k a h; omega
    · rcases List.mem_append.1 h with h | h
      · have := starts_lt lv l k a h; omega
      · simp at h; omega
theorem spAt_map (lv : List Int) (l : List Ev) : ∀ k, spAt lv l k = (starts lv l k).map fun a => isOpenAt lv l a k
  | 0 => rfl
  | k + 1 => by
    have ih := spAt_map lv l k
    have G := good lv l k
    rw [ih] at G
    have hs := starts_lt lv l k
    have same : (∀ a ∈ starts lv l k, (isOpenAt lv l a k).opn = true → lenAt lv l (k + 1) ≠ 0) → (starts lv l k).map (fun a => isOpenAt lv l a (k + 1)) = (starts lv l k).map fun a => isOpenAt lv l a k := fun h => by
      apply List.map_congr_left
      intro a ha
      simp only [isOpenAt]
      rw [if_neg (fun x => h a ha x.2.1 x.2.2)]
    simp only [spAt, spStep, starts]
    rw [ih]
    rw [show lenN (lenAt lv l k) (l.getD k default) lv = lenAt lv l (k + 1) from rfl]
    by_cases h1 : lenAt lv l k = 0 ∧ 0 < lenAt lv l (k + 1)
    · rw [if_pos h1, if_neg (by omega), List.map_append, same (fun a _ _ => by omega)]
      simp [isOpen_init lv l k (k + 1) (by omega)]
    · rw [if_neg h1]
      by_cases h2 : 0 < lenAt lv l k ∧ lenAt lv l (k + 1) = 0
      · rw [if_pos h2, if_pos (by omega)]
        obtain ⟨g1, g2⟩ := G.c.1 h2.1
        have g0 := G.b
        generalize hL : starts lv l k = L at *
        rcases List.eq_nil_or_concat L with rfl | ⟨I, a, rfl⟩
        · simp at g1
        · simp only [List.concat_eq_append, List.map_append, List.map_cons, List.map_nil, List.length_append, List.length_map, List.length_cons, List.length_nil, Nat.add_sub_cancel, Nat.zero_add] at *
          have e1 : (I.map (fun a => isOpenAt lv l a k) ++ [isOpenAt lv l a k]).getD I.length default = isOpenAt lv l a k := by
            simp
          rw [e1] at g2 ⊢
          have ha : a < k := hs a (by simp)
          have hI : I.map (fun a => isOpenAt lv l a (k + 1)) = I.map fun a => isOpenAt lv l a k := by
            apply List.map_congr_left
            intro b hb
            obtain ⟨i, hi, rfl⟩ := List.getElem_of_mem hb
            have := (g0 i (by omega)).1
            rw [getD_lt _ _ _ _ (by simpa using hi)] at this
            simp only [List.getD_eq_getElem?_getD, List.getElem?_map, List.getElem?_eq_getElem hi, Option.map_some, Option.getD_some] at this
            simp only [isOpenAt]
            rw [if_neg (fun x => by rw [this] at x; cases x.2.1)]
          rw [hI, List.set_append_right _ _ (by simp)]
          obtain ⟨f1, f2⟩ := isOpen_at lv l a k
          have e2 : isOpenAt lv l a (k + 1) = ⟨(l.getD a default).at_, (l.getD k default).at_, a, k, false⟩ := by
            simp only [isOpenAt]; rw [if_pos ⟨ha, g2, h2.2⟩]
          rw [e2]
          simp [f1, f2]
      · rw [if_neg h2]
        by_cases h3 : lenAt lv l (k + 1) = 0
        · rw [if_pos (by omega)]
          rw [same]
          intro a ha ho
          exfalso
          have hn : lenAt lv l k = 0 := by omega
          obtain ⟨i, hi, rfl⟩ := List.getElem_of_mem ha
          have e1 : ((starts lv l k).map fun a => isOpenAt lv l a k).getD i default = isOpenAt lv l (starts lv l k)[i] k := by
            simp [List.getD_eq_getElem?_getD, hi]
          by_cases hlast : i + 1 < (starts lv l k).length
          · have := (G.b i (by simpa using hlast)).1
            rw [e1, ho] at this; cases this
          · have : 0 < lenAt lv l k := G.c.2 ⟨by simp; omega, by
              rw [show ((starts lv l k).map fun a => isOpenAt lv l a k).length - 1 = i by simp; omega, e1]; exact ho⟩
            omega
        · rw [if_pos (by omega), same (fun _ _ _ => h3)]
end Go.Fg.X.SP
