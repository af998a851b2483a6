/-
  Specifications of chapter 38, part 5: the program's Select.
-/
import Derived.Test.YtlbfmbnmajlhaaaS4
set_option linter.unusedVariables false
set_option linter.unusedSimpArgs false
set_option maxRecDepth 100000
set_option maxHeartbeats 4000000
namespace Go.Dv.Try
open Go Go.Dv

theorem mget_mset (kv : List (Int × PV)) (k : Int) (v : PV) (c : Int) : mget (mset kv k v) c = if k = c then some v else mget kv c := by
  induction kv with
  | nil => simp [mset, mget]
  | cons x r ih =>
    obtain ⟨j, u⟩ := x
    by_cases h : j = k
    · subst h
      simp only [mset, if_true, mget]
      split <;> rfl
    · simp only [mset, if_neg h, mget, ih]
      by_cases hj : j = c
      · subst hj
        rw [if_pos rfl, if_neg (fun e => h e.symm), if_pos rfl]
      · rw [if_neg hj, if_neg hj]

/-- How the three maps stand for what was chosen. -/
structure Maps (qu : List Rq) (s : Sl) (ka kd kx : List (Int × PV)) : Prop where
  a : ∀ c, (mget ka c).getD (.int .i64 0) = .int .i64 (cntC qu s.a c)
  d : ∀ c, (mget kd c).getD (.bool false) = .bool (decide (0 < cntC qu s.d c))
  x : ∀ c, (mget kx c).getD (.bool false) = .bool (decide (0 < cntC qu s.x c))

theorem maps_a {qu : List Rq} {s : Sl} {ka kd kx : List (Int × PV)} (h : Maps qu s ka kd kx) {i : Nat} {u : List Ft} {c : Int} (hc : (qu.getD i R0).c = c) {n : Int} (hn : n = ((cntC qu s.a c + 1 : Nat) : Int)) : Maps qu ⟨s.a ++ [i], s.d, s.x, u⟩ (mset ka c (.int .i64 n)) kd kx := by
  refine ⟨fun k => ?_, h.d, h.x⟩
  rw [mget_mset, cntC_app, hc]
  split
  · rename_i e; subst e; simp [hn]
  · have := h.a k
    simpa using this
theorem maps_d {qu : List Rq} {s : Sl} {ka kd kx : List (Int × PV)} (h : Maps qu s ka kd kx) {i : Nat} {c : Int} (hc : (qu.getD i R0).c = c) : Maps qu ⟨s.a, s.d ++ [i], s.x, s.u⟩ ka (mset kd c (.bool true)) kx := by
  refine ⟨h.a, fun k => ?_, h.x⟩
  rw [mget_mset, cntC_app, hc]
  split
  · rename_i e; subst e; simp
  · have := h.d k
    simpa using this
theorem maps_x {qu : List Rq} {s : Sl} {ka kd kx : List (Int × PV)} (h : Maps qu s ka kd kx) {i : Nat} {c : Int} (hc : (qu.getD i R0).c = c) : Maps qu ⟨s.a, s.d, s.x ++ [i], s.u⟩ ka kd (mset kx c (.bool true)) := by
  refine ⟨h.a, h.d, fun k => ?_⟩
  rw [mget_mset, cntC_app, hc]
  split
  · rename_i e; subst e; simp
  · have := h.x k
    simpa using this
theorem maps_x0 {qu : List Rq} {s : Sl} {ka kd kx : List (Int × PV)} (h : Maps qu s ka kd kx) {i : Nat} (hp : 0 < cntC qu s.x (qu.getD i R0).c) : Maps qu ⟨s.a, s.d, s.x ++ [i], s.u⟩ ka kd kx := by
  refine ⟨h.a, h.d, fun k => ?_⟩
  rw [h.x k, cntC_app]
  by_cases e : (qu.getD i R0).c = k
  · subst e
    rw [if_pos rfl, decide_eq_true hp, decide_eq_true (by omega)]
  · rw [if_neg e]; rfl

/-- Can the request be admitted? -/
def canB (q : Qt) (hot : List ByteArray) (qu : List Rq) (s : Sl) (c : Int) (f : Ft) : Bool := decide (cntC qu s.d c = 0) && (decide ((s.u.length : Int) < q.b) && (decide ((cntC qu s.a c : Int) < q.c) && !blkB q hot s.u f))


theorem bs_open (q : Qt) (hot : List ByteArray) (b : Bool) (qu : List Rq) (s : Sl) (ka kd kx : List (Int × PV)) (hm : Maps qu s ka kd kx) (r : Rq) (f : Ft) (hok : okF f) (hl : hot.length ≤ 1000) (hu : s.u.length ≤ 1000) (ho : ∀ f ∈ s.u, okF f) (c : Int) :
    BS tb 56 [.ptr 4 0, .p (.int .i64 c), .agg [.p (.bool f.all), .p (.slice f.br (strRow f.r)), .p (.slice f.bw (strRow f.w))]] ((9, .var false [.p (.int .i64 r.c), .p r.x1, .p r.x2, .p r.x3, .p r.x4, .p r.x5, .p r.x6, .p r.x7]) :: [(8, .row false 1 (nRow s.a)), (7, .row false 1 (nRow s.d)), (6, .row false 1 (nRow s.x)), (5, .row false 3 (ftRow s.u)), (4, .var false [.p (.int .i64 q.b), .p (.int .i64 q.c), .p (.int .i64 q.k), .p (.int .i64 q.q), .p (.slice b (strRow hot)), .ref 5 s.u.length 0 s.u.length, .ptr 1 0, .ptr 2 0, .ptr 3 0]), (3, .map false kx), (2, .map false kd), (1, .map false ka), (0, .var false [.p (.int .i64 q.b), .p (.int .i64 q.c), .p (.int .i64 q.k), .p (.int .i64 q.q)])]) 10 (.p (.bool (canB q hot qu s c f))) ((9, .var false [.p (.int .i64 r.c), .p r.x1, .p r.x2, .p r.x3, .p r.x4, .p r.x5, .p r.x6, .p r.x7]) :: [(8, .row false 1 (nRow s.a)), (7, .row false 1 (nRow s.d)), (6, .row false 1 (nRow s.x)), (5, .row false 3 (ftRow s.u)), (4, .var false [.p (.int .i64 q.b), .p (.int .i64 q.c), .p (.int .i64 q.k), .p (.int .i64 q.q), .p (.slice b (strRow hot)), .ref 5 s.u.length 0 s.u.length, .ptr 1 0, .ptr 2 0, .ptr 3 0]), (3, .map false kx), (2, .map false kd), (1, .map false ka), (0, .var false [.p (.int .i64 q.b), .p (.int .i64 q.c), .p (.int .i64 q.k), .p (.int .i64 q.q)])]) 11 := by
  have s4 := ps_fblk q hot b s.u false f hok hl hu ho
  have ea := hm.a c
  have ed := hm.d c
  simp only [Option.getD] at ea ed
  refine BS_of (af := a56) rfl rfl ?_
  unfold a56
  dsimp only [initEnv]
  dsimp only [qC, ftC] at s4
  repeat' (first | (simp (disch := omega) only [go_sem, seval, reduceCtorEq, ea, ed, ftRow_length, ftRow_take]) | (apply x_pure; iterate 5 (first | exact s4 | ((try simp (disch := omega) only [go_sem, seval, reduceCtorEq, ea, ed, ftRow_length, ftRow_take]) <;> with_reducible exact rfl))) | ((first | apply x_split_cond | apply x_split_guard); all_goals (intro hb; (try simp only [Bool.not_eq_true', Bool.not_eq_false'] at hb); (simp (disch := omega) only [go_sem, seval, reduceCtorEq, ea, ed, ftRow_length, ftRow_take, hb]); (try simp only [decide_eq_true_eq, decide_eq_false_iff_not, beq_iff_eq, beq_eq_false_iff_ne, ne_eq, bne_iff_ne, bne_eq_false_iff_eq, Decidable.not_not] at hb))))
  all_goals
    refine congrArg (fun x => DV.p (.bool x)) ?_
    clear ea ed s4
    unfold canB
    grind

end Go.Dv.Try
