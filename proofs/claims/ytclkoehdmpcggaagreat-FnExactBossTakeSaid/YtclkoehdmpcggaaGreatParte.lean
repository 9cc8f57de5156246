/- Contracts of functions of the program: what each call answers. -/
import Derived.Test.YtclkoehdmpcggaaGreatPartd
section
set_option linter.unusedVariables false
set_option linter.unusedSimpArgs false
set_option maxHeartbeats 4000000
set_option maxRecDepth 20000
open Go Go.Tm Go.Proofs
namespace Go.K
structure Story where
 code:Int
 epoch:Int
 results:List ByteArray
 deriving DecidableEq
abbrev storyO (x:Story):V:=.agg [.t (.i x.code),.t (.i x.epoch),.own [false] (x.results.map strT)]
noncomputable def taleAt (ts:List Task) (xs:List ByteArray) (n:Nat):Tale:=(runR ts (some (tale0 ts)) (xs.take n)).getD (tale0 ts)
def taleOk (ts:List Task) (xs:List ByteArray) (n:Nat):Prop:=runR ts (some (tale0 ts)) (xs.take n) = some (taleAt ts xs n)
theorem taleAt_zero (ts:List Task) (xs:List ByteArray):taleAt ts xs 0 = tale0 ts:=by unfold taleAt; rw [List.take_zero,runR_nil]; rfl
theorem taleOk_zero (ts:List Task) (xs:List ByteArray):taleOk ts xs 0:=by unfold taleOk; rw [taleAt_zero,List.take_zero,runR_nil]
theorem tale_step {ts:List Task} {xs:List ByteArray} {n:Nat} {s:ByteArray} {t:Tale} (h:taleOk ts xs n) (hs:xs[n]? = some s) (hst:stepR ts (taleAt ts xs n) s = some t):taleOk ts xs (n + 1) ∧ taleAt ts xs (n + 1) = t:=by
 have e:=runR_take h hs
 rw [hst] at e
 have e2:taleAt ts xs (n + 1) = t:=by unfold taleAt; rw [e]; rfl
 exact ⟨by unfold taleOk; rw [e,e2],e2⟩
theorem tale_len {ts:List Task} {xs:List ByteArray} {n:Nat} (h:taleOk ts xs n):(taleAt ts xs n).results.length = ts.length:=by
 rw [runR_len ts _ _ _ h,tale0,List.length_replicate]
noncomputable def replayP (p:Plan) (xs:List ByteArray):Story :=
 if checkPlan p.tasks = 0 ∧ xs.length ≤ 310 then
  match runR p.tasks (some (tale0 p.tasks)) xs with
  | none=>⟨2,0,[]⟩
  | some t=>⟨0,t.epoch,t.results⟩
 else ⟨1,0,[]⟩
theorem replay_bad {p:Plan} {xs:List ByteArray} (h:¬ (checkPlan p.tasks = 0 ∧ xs.length ≤ 310)):replayP p xs = ⟨1,0,[]⟩:=if_neg h
theorem replay_no {p:Plan} {xs:List ByteArray} {n:Nat} {s:ByteArray} (h:checkPlan p.tasks = 0) (hl:xs.length ≤ 310) (hc:taleOk p.tasks xs n) (hs:xs[n]? = some s) (hst:stepR p.tasks (taleAt p.tasks xs n) s = none):replayP p xs = ⟨2,0,[]⟩:=by
 rw [replayP,if_pos ⟨h,hl⟩,runR_bad hc hs hst]
theorem replay_yes {p:Plan} {xs:List ByteArray} {n:Nat} (h:checkPlan p.tasks = 0) (hl:xs.length ≤ 310) (hc:taleOk p.tasks xs n) (hn:xs.length ≤ n):replayP p xs = ⟨0,(taleAt p.tasks xs n).epoch,(taleAt p.tasks xs n).results⟩:=by
 rw [replayP,if_pos ⟨h,hl⟩,runR_all hc hn]
theorem step_none {ts:List Task} {t:Tale} {s:ByteArray} (h:readS s = none):stepR ts t s = none:=by unfold stepR; rw [h]
theorem step_ep {ts:List Task} {t:Tale} {s:ByteArray} {e:Entry} (h:readS s = some e) (hk:e.kind = 1) (he:e.epoch = t.epoch + 1):stepR ts t s = some ⟨e.epoch,t.results⟩:=by
 unfold stepR; rw [h]; simp only [if_pos hk,if_pos he]
theorem step_ep_no {ts:List Task} {t:Tale} {s:ByteArray} {e:Entry} (h:readS s = some e) (hk:e.kind = 1) (he:¬ e.epoch = t.epoch + 1):stepR ts t s = none:=by
 unfold stepR; rw [h]; simp only [if_pos hk,if_neg he]
theorem step_res {ts:List Task} {t:Tale} {s:ByteArray} {e:Entry} {k:Task} {y:ByteArray} (h:readS s = some e) (hk:¬ e.kind = 1) (he:e.epoch = t.epoch) (ht:e.task < ts.length) (hy:t.results[e.task.toNat]? = some y) (hy2:y = emp) (hkk:ts[e.task.toNat]? = some k) (hr:readyB t.results k.deps):stepR ts t s = some ⟨t.epoch,t.results.set e.task.toNat e.text⟩:=by
 unfold stepR; rw [h]; simp only [if_neg hk]
 rw [if_pos ⟨he,ht,by rw [hy]; exact hy2,by rw [hkk]; exact hr⟩]
theorem step_no1 {ts:List Task} {t:Tale} {s:ByteArray} {e:Entry} (h:readS s = some e) (hk:¬ e.kind = 1) (hn:¬ (e.epoch = t.epoch ∧ e.task < ts.length)):stepR ts t s = none:=by
 unfold stepR; rw [h]; simp only [if_neg hk]
 rw [if_neg fun q=>hn ⟨q.1,q.2.1⟩]
theorem step_no2 {ts:List Task} {t:Tale} {s:ByteArray} {e:Entry} {y:ByteArray} (h:readS s = some e) (hk:¬ e.kind = 1) (hy:t.results[e.task.toNat]? = some y) (hn:¬ y = emp):stepR ts t s = none:=by
 unfold stepR; rw [h]; simp only [if_neg hk]
 rw [if_neg fun q=>hn (by have:=q.2.2.1; rw [hy] at this; exact this)]
theorem step_no3 {ts:List Task} {t:Tale} {s:ByteArray} {e:Entry} {k:Task} (h:readS s = some e) (hk:¬ e.kind = 1) (hkk:ts[e.task.toNat]? = some k) (hn:¬ readyB t.results k.deps):stepR ts t s = none:=by
 unfold stepR; rw [h]; simp only [if_neg hk]
 rw [if_neg fun q=>hn (by have:=q.2.2.2; rw [hkk] at this; exact this)]
theorem readS_rng {s:ByteArray} {e:Entry} (h:readS s = some e):e.ok:=by
 unfold readS at h
 split at h
 ·cases h
 ·split at h
  ·rename_i h1 h2
   cases h
   unfold formS at h2
   split at h2
   ·assumption
   ·rw [← h2] at h1; exact absurd (by decide:((emp.size:Nat):Int) < 4) h1
  ·cases h
theorem c_spec_l4Deps (p:Plan) (rs:List ByteArray) (k:Int) {t:Task} (h0:0 ≤ k) (ht:p.tasks[k.toNat]? = some t) (hd:∀ d ∈ t.deps,0 ≤ d ∧ d < rs.length) (hl:t.deps.length ≤ 1048576):F n_spec_l4Deps [.val (planR p),.val (.t (strs rs)),.val (.i k)] (.b (decide (readyB rs t.deps))) [[],[],[]]:=by
 have hk:=(List.getElem?_eq_some_iff.1 ht).1
 refine i_spec_l4Deps ?_
 conv=>whnf
 refine g 0 1 [] ?_
 conv=>whnf
 refine ⟨⟨⟨I,I⟩,I,I⟩,?_⟩
 refine g 9 15 [.x (taskT t)] ?_
 conv=>whnf
 refine ⟨⟨I,I,I,⟨(by assumption),ixl (by assumption)⟩,I,I,I,I⟩,?_⟩
 refine W.sq ?_
 refine g 2 4 [] ?_
 conv=>whnf
 refine ⟨⟨I,I⟩,?_⟩
 refine W.blk ?_
 refine W.lp (fun s (n:Nat)=>⟨[(1,s.s 1),(7,s.s 7),(8,.i n)],[],[]⟩) (fun (n:Nat)=>n ≤ t.deps.length ∧ readyB rs (t.deps.take n)) (fun (n:Nat)=>t.deps.length - n) (0) [] [] ⟨rfl,⟨rfl,rfl,rfl,I⟩,I,I⟩ ?_ ?_
 ·exact ⟨Nat.zero_le _,by unfold readyB; simp⟩
 rintro n ⟨hn,hc⟩
 conv=>whnf
 refine W.sq ?_
 refine g 15 18 [] ?_
 conv=>whnf
 refine ⟨⟨I,I,I,I,I⟩,?_⟩
 refine W.cn ?_
 conv=>whnf
 refine ⟨fun h1=>?_,fun h1=>?_⟩
 replace h1:=dt h1
 simp only [List.length_map] at h1
 refine W.skip ?_
 refine W.sq ?_
 refine W.blk ?_
 obtain ⟨y1,hy1⟩:=some_at (xs:=Task.deps t) (n:=n) (by omega)
 have hm1:=hd y1 (List.mem_of_getElem? hy1)
 obtain ⟨y2,hy2⟩:=some_at (xs:=rs) (n:=Int.toNat y1) (by omega)
 refine g 18 28 [.x (intT y1),.x (strT y2)] ?_
 conv=>whnf
 refine ⟨⟨I,I,I,⟨(by omega),ixl (by assumption)⟩,I,⟨(by omega),ixl (by assumption)⟩,I,I,I⟩,?_⟩
 refine W.cn ?_
 conv=>whnf
 refine ⟨fun h2=>?_,fun h2=>?_⟩
 replace h2:=dt h2
 refine g 28 29 [] ?_
 conv=>whnf
 refine ⟨⟨I,I⟩,?_⟩
 refine W.ret ?_
 refine EndsW.rt ?_
 conv=>whnf
 refine ⟨⟨I,I,I⟩,?_,rfl⟩
 rotate_left 1
 replace h2:=df h2
 refine W.skip ?_
 refine rg [.i ((↑n:Int) + (1:Int))] ?_
 conv=>whnf
 refine ⟨⟨I,w64 (by omega) (by omega),I,I⟩,?_⟩
 rotate_left 1
 replace h1:=df h1
 simp only [List.length_map] at h1
 refine W.exit ?_
 refine g 7 19 [] ?_
 conv=>whnf
 refine ⟨⟨I,I⟩,?_⟩
 refine W.ret ?_
 refine EndsW.rt ?_
 conv=>whnf
 refine ⟨⟨I,I,I⟩,?_,rfl⟩
 rotate_left 1
 ·exact vbf (ready_no (by assumption) (by assumption) (by assumption))
 ·refine ⟨n + 1,[],[],⟨rfl,⟨rfl,rfl,rfl,I⟩,I,I⟩,?_,?_⟩
  rotate_left 1
  (dsimp only; omega)
  dsimp only
  exact ⟨by omega,ready_step hc (by assumption) (by assumption) (by assumption)⟩
 ·exact vbt (by rw [List.take_of_length_le (by omega)] at hc; exact hc)
theorem tale_rng {ts:List Task} {e:Entry} (h:e.ok):0 ≤ e.task ∧ e.task ≤ 39 ∧ 1 ≤ e.epoch ∧ e.epoch ≤ 300:=⟨h.2.1.1,h.2.1.2,h.1.1,h.1.2⟩
theorem tale_replicate (ts:List Task) (xs:List ByteArray):List.replicate ts.length (strT emp) = (taleAt ts xs 0).results.map strT:=by rw [taleAt_zero,tale0,List.map_replicate]
theorem c_impl_Replay (p:Plan) (xs:List ByteArray) (hp:planWf p) (hx:∀ s ∈ xs,s.size ≤ 281474976710656) (hl:xs.length ≤ 9223372036854775806):F n_impl_Replay [.val (planR p),.val (.t (strs xs))] (storyO (replayP p xs)) [[],[]]:=by
 have c1:=c_impl_CheckPlan p hp
 by_cases h:checkPlan p.tasks = 0
 ·obtain ⟨⟨hl1,hl2⟩,_⟩:=chk_inv h
  rw [h] at c1
  by_cases hl3:xs.length ≤ 310
  ·refine i_impl_Replay ?_
   conv=>whnf
   refine g 0 0 [] ?_
   conv=>whnf
   refine ⟨⟨⟨I,I⟩,I,I⟩,?_⟩
   refine W.sq ?_
   refine g 13 18 [.call (V.i (0:Int)) ([[]]),.b (false),.b (false),.b (false),.b (false)] ?_
   conv=>whnf
   refine ⟨⟨I,⟨⟨I,I⟩,I,⟨⟨I,I⟩,I⟩,⟨I,I⟩,(by assumption)⟩,I,I,⟨rfl,I⟩,⟨rfl,I⟩,⟨rfl,I⟩,rfl,I⟩,?_⟩
   refine W.cn ?_
   conv=>whnf
   refine ⟨fun h1=>?_,fun h1=>?_⟩
   replace h1:=dt h1
   simp only [List.length_map] at h1
   omega
   replace h1:=df h1
   simp only [List.length_map] at h1
   refine W.skip ?_
   refine gd 21 24 [[],[],[],[.n (List.length (List.map taskT (Plan.tasks p)))],[],[]] ?_
   conv=>whnf
   refine ⟨⟨I,I,I,⟨rfl,rfl,(by simp only [lens]; omega)⟩,I,I,I⟩,by kernel_rfl,?_⟩
   refine W.sq ?_
   refine g 11 12 [] ?_
   conv=>whnf
   refine ⟨⟨I,I,I,I⟩,?_⟩
   refine W.blk ?_
   refine W.lp (fun s (n:Nat)=>⟨[(0,s.s 0),(1,s.s 1),(2,s.s 2),(4,s.s 4),(5,.i (taleAt p.tasks xs n).epoch),(6,.ref ⟨23,none,0⟩),(12,s.s 12),(20,s.s 20),(24,s.s 24),(25,s.s 25),(26,.i n)],[(2,[s.c 2 0]),(4,[s.c 4 0,s.c 4 1,s.c 4 2]),(23,[.own [false] ((taleAt p.tasks xs n).results.map strT)])],[]⟩) (fun (n:Nat)=>n ≤ xs.length ∧ taleOk p.tasks xs n ∧ 0 ≤ (taleAt p.tasks xs n).epoch ∧ (taleAt p.tasks xs n).epoch ≤ 300) (fun (n:Nat)=>xs.length - n) (0) [some 2,some 4,some 23] [] ⟨rfl,⟨⟨_,rfl,_,_,rfl,rfl,rfl⟩,rfl,rfl,rfl,rfl,rfl,rfl,rfl,rfl,rfl,rfl,I⟩,⟨⟨rfl,⟨rfl,I⟩⟩,⟨⟨rfl,⟨rfl,⟨rfl,⟨rfl,I⟩⟩⟩⟩,⟨⟨rfl,⟨(congrArg (V.own _) (by rw [List.length_map]; exact tale_replicate _ _)),I⟩⟩,I⟩⟩⟩,I⟩ ?_ ?_
   ·rw [taleAt_zero]; exact ⟨Nat.zero_le _,taleOk_zero _ _,Int.le_refl _,by show (0:Int) ≤ 300; omega⟩
   rintro n ⟨hn,hc,he0,he1⟩
   have hrl:=tale_len hc
   by_cases hn2:n < xs.length
   ·obtain ⟨s0,hs⟩:=some_at hn2
    have hss:=hx s0 (List.mem_of_getElem? hs)
    have cr:=c_impl_ReadEntry s0 hss
    rw [read_eq] at cr
    cases hr:readS s0 with
    | none =>
      rw [hr] at cr
      conv=>whnf
      refine g 0 0 [] ?_
      conv=>whnf
      refine ⟨⟨I,I⟩,?_⟩
      refine W.sq ?_
      refine W.cn ?_
      conv=>whnf
      refine ⟨fun _=>?_,noF (by simp [*])⟩
      refine W.skip ?_
      refine W.sq ?_
      refine W.blk ?_
      refine g 27 30 [.x (strT s0)] ?_
      conv=>whnf
      refine ⟨⟨⟨(by omega),ixl (by assumption)⟩,I,I,I⟩,?_⟩
      refine g 30 35 [.call (tupE none) ([[]])] ?_
      conv=>whnf
      refine ⟨⟨I,⟨⟨I,I⟩,I,⟨⟨I,I⟩,I⟩,⟨I,I⟩,(by assumption)⟩,I,I,I,I,⟨I,I,I,I,I⟩,I,I⟩,?_⟩
      refine W.sq ?_
      refine g 8 9 [] ?_
      conv=>whnf
      refine ⟨⟨I,I,I⟩,?_⟩
      refine W.cn ?_
      conv=>whnf
      refine ⟨fun _=>?_,noF (rfl)⟩
      refine g 35 38 [] ?_
      conv=>whnf
      refine ⟨⟨I,⟨I,I,I,I⟩,I⟩,?_⟩
      refine W.ret ?_
      refine EndsW.rt ?_
      conv=>whnf
      refine ⟨⟨I,I,I,I,I⟩,?_,rfl⟩
      rw [replay_no h hl3 hc hs (step_none hr)]; rfl
    | some e =>
      rw [hr] at cr
      obtain ⟨r1,r2,r3,r4⟩:=tale_rng (ts:=p.tasks) (readS_rng hr)
      by_cases hk:e.kind = 1
      ·by_cases he:e.epoch = (taleAt p.tasks xs n).epoch + 1
       ·obtain ⟨hc2,e1⟩:=tale_step hc hs (step_ep hr hk he)
        conv=>whnf
        refine g 0 0 [] ?_
        conv=>whnf
        refine ⟨⟨I,I⟩,?_⟩
        refine W.sq ?_
        refine W.cn ?_
        conv=>whnf
        refine ⟨fun _=>?_,noF (by simp [*])⟩
        refine W.skip ?_
        refine W.sq ?_
        refine W.blk ?_
        refine g 27 30 [.x (strT s0)] ?_
        conv=>whnf
        refine ⟨⟨⟨(by omega),ixl (by assumption)⟩,I,I,I⟩,?_⟩
        refine g 30 35 [.call (tupE (some e)) ([[]])] ?_
        conv=>whnf
        refine ⟨⟨I,⟨⟨I,I⟩,I,⟨⟨I,I⟩,I⟩,⟨I,I⟩,(by assumption)⟩,I,I,I,I,⟨I,I,I,I,I⟩,I,I⟩,?_⟩
        refine W.sq ?_
        refine g 8 9 [] ?_
        conv=>whnf
        refine ⟨⟨I,I,I⟩,?_⟩
        refine W.cn ?_
        conv=>whnf
        refine ⟨noT (rfl),fun _=>?_⟩
        refine W.skip ?_
        refine W.sq ?_
        refine g 35 40 [] ?_
        conv=>whnf
        refine ⟨⟨I,I,I,I⟩,?_⟩
        refine W.cn ?_
        conv=>whnf
        refine ⟨fun _=>?_,noF (dT (by omega))⟩
        refine W.sq ?_
        refine g 40 45 [.i (Tale.epoch (taleAt (Plan.tasks p) xs n) + (1:Int))] ?_
        conv=>whnf
        refine ⟨⟨I,I,I,w64 (by omega) (by omega),I,I⟩,?_⟩
        refine W.cn ?_
        conv=>whnf
        refine ⟨noT (notF (by omega)),fun _=>?_⟩
        refine W.skip ?_
        refine g 45 49 [] ?_
        conv=>whnf
        refine ⟨⟨I,I,I,I⟩,?_⟩
        refine W.exit ?_
        refine rg [.i ((↑n:Int) + (1:Int))] ?_
        conv=>whnf
        refine ⟨⟨w64 (by omega) (by omega),I,I⟩,?_⟩
        refine ⟨n + 1,[some 2,some 4,some 23],[],⟨rfl,⟨⟨_,rfl,_,_,rfl,rfl,rfl⟩,rfl,rfl,rfl,(congrArg (fun z=>V.t (T.v (Value.int _ z))) (by rw [e1])),rfl,rfl,rfl,rfl,rfl,rfl,I⟩,⟨⟨rfl,⟨rfl,I⟩⟩,⟨⟨rfl,⟨rfl,⟨rfl,⟨rfl,I⟩⟩⟩⟩,⟨⟨rfl,⟨(congrArg (V.own _) (by rw [e1])),I⟩⟩,I⟩⟩⟩,I⟩,?_,?_⟩
        rotate_left 1
        (dsimp only; omega)
        dsimp only
        exact ⟨by omega,hc2,by rw [e1]; dsimp only; omega,by rw [e1]; dsimp only; omega⟩
       ·conv=>whnf
        refine g 0 0 [] ?_
        conv=>whnf
        refine ⟨⟨I,I⟩,?_⟩
        refine W.sq ?_
        refine W.cn ?_
        conv=>whnf
        refine ⟨fun _=>?_,noF (by simp [*])⟩
        refine W.skip ?_
        refine W.sq ?_
        refine W.blk ?_
        refine g 27 30 [.x (strT s0)] ?_
        conv=>whnf
        refine ⟨⟨⟨(by omega),ixl (by assumption)⟩,I,I,I⟩,?_⟩
        refine g 30 35 [.call (tupE (some e)) ([[]])] ?_
        conv=>whnf
        refine ⟨⟨I,⟨⟨I,I⟩,I,⟨⟨I,I⟩,I⟩,⟨I,I⟩,(by assumption)⟩,I,I,I,I,⟨I,I,I,I,I⟩,I,I⟩,?_⟩
        refine W.sq ?_
        refine g 8 9 [] ?_
        conv=>whnf
        refine ⟨⟨I,I,I⟩,?_⟩
        refine W.cn ?_
        conv=>whnf
        refine ⟨noT (rfl),fun _=>?_⟩
        refine W.skip ?_
        refine W.sq ?_
        refine g 35 40 [] ?_
        conv=>whnf
        refine ⟨⟨I,I,I,I⟩,?_⟩
        refine W.cn ?_
        conv=>whnf
        refine ⟨fun _=>?_,noF (dT (by omega))⟩
        refine W.sq ?_
        refine g 40 45 [.i (Tale.epoch (taleAt (Plan.tasks p) xs n) + (1:Int))] ?_
        conv=>whnf
        refine ⟨⟨I,I,I,w64 (by omega) (by omega),I,I⟩,?_⟩
        refine W.cn ?_
        conv=>whnf
        refine ⟨fun _=>?_,noF (notT (by omega))⟩
        refine g 45 47 [] ?_
        conv=>whnf
        refine ⟨⟨I,⟨I,I,I,I⟩,I⟩,?_⟩
        refine W.ret ?_
        refine EndsW.rt ?_
        conv=>whnf
        refine ⟨⟨I,I,I,I,I⟩,?_,rfl⟩
        rw [replay_no h hl3 hc hs (step_ep_no hr hk he)]; rfl
      ·by_cases heq:e.epoch = (taleAt p.tasks xs n).epoch
       ·by_cases hlt:e.task < p.tasks.length
        ·obtain ⟨t,ht⟩:=some_at (xs:=p.tasks) (n:=e.task.toNat) (by omega)
         obtain ⟨y,hy⟩:=some_at (xs:=(taleAt p.tasks xs n).results) (n:=e.task.toNat) (by omega)
         by_cases hye:y = emp
         ·obtain ⟨_,_,a3,a4⟩:=chk_task h ht
          have cd:=c_impl_ready (taleAt p.tasks xs n).results t.deps (fun d hd=>by have:=a4 d hd; omega) (by omega)
          by_cases hrd:readyB (taleAt p.tasks xs n).results t.deps
          ·rw [decide_eq_true hrd] at cd
           obtain ⟨hc2,e1⟩:=tale_step hc hs (step_res hr hk heq hlt hy hye ht hrd)
           conv=>whnf
           refine g 0 0 [] ?_
           conv=>whnf
           refine ⟨⟨I,I⟩,?_⟩
           refine W.sq ?_
           refine W.cn ?_
           conv=>whnf
           refine ⟨fun _=>?_,noF (by simp [*])⟩
           refine W.skip ?_
           refine W.sq ?_
           refine W.blk ?_
           refine g 27 30 [.x (strT s0)] ?_
           conv=>whnf
           refine ⟨⟨⟨(by omega),ixl (by assumption)⟩,I,I,I⟩,?_⟩
           refine g 30 35 [.call (tupE (some e)) ([[]])] ?_
           conv=>whnf
           refine ⟨⟨I,⟨⟨I,I⟩,I,⟨⟨I,I⟩,I⟩,⟨I,I⟩,(by assumption)⟩,I,I,I,I,⟨I,I,I,I,I⟩,I,I⟩,?_⟩
           refine W.sq ?_
           refine g 8 9 [] ?_
           conv=>whnf
           refine ⟨⟨I,I,I⟩,?_⟩
           refine W.cn ?_
           conv=>whnf
           refine ⟨noT (rfl),fun _=>?_⟩
           refine W.skip ?_
           refine W.sq ?_
           refine g 35 40 [] ?_
           conv=>whnf
           refine ⟨⟨I,I,I,I⟩,?_⟩
           refine W.cn ?_
           conv=>whnf
           refine ⟨noT (dF (by omega)),fun _=>?_⟩
           refine W.skip ?_
           refine W.sq ?_
           refine g 63 80 [.b (false),.b (false),.b (false),.b (false),.b (false),.b (false),.b (false),.b (false),.b (false),.b (false),.b (false),.n (Int.toNat (Entry.task e)),.b (false),.x (strT y),.b (false),.b (false),.b (false),.b (false),.b (false),.b (false),.b (false),.b (false),.x (taskT t),.b (false),.b (false),.b (false),.call (V.b true) ([[],[]]),.b (false),.b (false)] ?_
           conv=>whnf
           refine ⟨⟨I,I,I,I,I,⟨notF (by omega),I⟩,⟨notF (by omega),I⟩,⟨notF (by omega),I⟩,⟨notF (by omega),I⟩,⟨notF (by omega),I⟩,⟨notF (by omega),I⟩,notF (by omega),I,⟨(by simp [*]),I⟩,⟨(by simp [*]),I⟩,⟨(by simp [*]),I⟩,⟨(by simp [*]),(by omega),(by simp only [lens]; omega)⟩,⟨(by simp [*]),ixl (by assumption)⟩,⟨(by simp [*]),I⟩,(by simp [*]),I,⟨notF (by omega),I⟩,⟨notF (by omega),I⟩,⟨notF (by omega),I⟩,⟨notF (by omega),I⟩,⟨notF (by omega),I⟩,⟨notF (by omega),(by assumption),ixl (by assumption)⟩,⟨notF (by omega),I⟩,⟨notF (by omega),I⟩,⟨notF (by omega),⟨I,I,I⟩,I,⟨⟨I,I⟩,⟨I,I⟩,I⟩,⟨I,I⟩,(by assumption)⟩,⟨notF (by omega),I⟩,notF (by omega),I⟩,?_⟩
           refine W.cn ?_
           conv=>whnf
           refine ⟨noT (rfl),fun _=>?_⟩
           refine W.skip ?_
           refine rg [.n (Int.toNat (Entry.task e)),.x (strT y)] ?_
           conv=>whnf
           refine ⟨⟨I,I,I,I,I,⟨(by omega),(by simp only [lens]; omega)⟩,⟨⟨I,I⟩,ixl (by assumption)⟩,I⟩,?_⟩
           refine rg [.i ((↑n:Int) + (1:Int))] ?_
           conv=>whnf
           refine ⟨⟨w64 (by omega) (by omega),I,I⟩,?_⟩
           refine ⟨n + 1,[some 2,some 4,some 23],[],⟨rfl,⟨⟨_,rfl,_,_,rfl,rfl,rfl⟩,rfl,rfl,rfl,(congrArg (fun z=>V.t (T.v (Value.int _ z))) (by rw [e1])),rfl,rfl,rfl,rfl,rfl,rfl,I⟩,⟨⟨rfl,⟨rfl,I⟩⟩,⟨⟨rfl,⟨rfl,⟨rfl,⟨rfl,I⟩⟩⟩⟩,⟨⟨rfl,⟨(congrArg (V.own _) (by rw [e1,List.map_set]; rfl)),I⟩⟩,I⟩⟩⟩,I⟩,?_,?_⟩
           rotate_left 1
           (dsimp only; omega)
           dsimp only
           exact ⟨by omega,hc2,by rw [e1]; dsimp only; omega,by rw [e1]; dsimp only; omega⟩
          ·rw [decide_eq_false hrd] at cd
           conv=>whnf
           refine g 0 0 [] ?_
           conv=>whnf
           refine ⟨⟨I,I⟩,?_⟩
           refine W.sq ?_
           refine W.cn ?_
           conv=>whnf
           refine ⟨fun _=>?_,noF (by simp [*])⟩
           refine W.skip ?_
           refine W.sq ?_
           refine W.blk ?_
           refine g 27 30 [.x (strT s0)] ?_
           conv=>whnf
           refine ⟨⟨⟨(by omega),ixl (by assumption)⟩,I,I,I⟩,?_⟩
           refine g 30 35 [.call (tupE (some e)) ([[]])] ?_
           conv=>whnf
           refine ⟨⟨I,⟨⟨I,I⟩,I,⟨⟨I,I⟩,I⟩,⟨I,I⟩,(by assumption)⟩,I,I,I,I,⟨I,I,I,I,I⟩,I,I⟩,?_⟩
           refine W.sq ?_
           refine g 8 9 [] ?_
           conv=>whnf
           refine ⟨⟨I,I,I⟩,?_⟩
           refine W.cn ?_
           conv=>whnf
           refine ⟨noT (rfl),fun _=>?_⟩
           refine W.skip ?_
           refine W.sq ?_
           refine g 35 40 [] ?_
           conv=>whnf
           refine ⟨⟨I,I,I,I⟩,?_⟩
           refine W.cn ?_
           conv=>whnf
           refine ⟨noT (dF (by omega)),fun _=>?_⟩
           refine W.skip ?_
           refine W.sq ?_
           refine g 63 80 [.b (false),.b (false),.b (false),.b (false),.b (false),.b (false),.b (false),.b (false),.b (false),.b (false),.b (false),.n (Int.toNat (Entry.task e)),.b (false),.x (strT y),.b (false),.b (false),.b (false),.b (false),.b (false),.b (false),.b (false),.b (false),.x (taskT t),.b (false),.b (false),.b (false),.call (V.b false) ([[],[]]),.b (false),.b (false)] ?_
           conv=>whnf
           refine ⟨⟨I,I,I,I,I,⟨notF (by omega),I⟩,⟨notF (by omega),I⟩,⟨notF (by omega),I⟩,⟨notF (by omega),I⟩,⟨notF (by omega),I⟩,⟨notF (by omega),I⟩,notF (by omega),I,⟨(by simp [*]),I⟩,⟨(by simp [*]),I⟩,⟨(by simp [*]),I⟩,⟨(by simp [*]),(by omega),(by simp only [lens]; omega)⟩,⟨(by simp [*]),ixl (by assumption)⟩,⟨(by simp [*]),I⟩,(by simp [*]),I,⟨notF (by omega),I⟩,⟨notF (by omega),I⟩,⟨notF (by omega),I⟩,⟨notF (by omega),I⟩,⟨notF (by omega),I⟩,⟨notF (by omega),(by assumption),ixl (by assumption)⟩,⟨notF (by omega),I⟩,⟨notF (by omega),I⟩,⟨notF (by omega),⟨I,I,I⟩,I,⟨⟨I,I⟩,⟨I,I⟩,I⟩,⟨I,I⟩,(by assumption)⟩,⟨notF (by omega),I⟩,notF (by omega),I⟩,?_⟩
           refine W.cn ?_
           conv=>whnf
           refine ⟨fun _=>?_,noF (rfl)⟩
           refine g 40 62 [] ?_
           conv=>whnf
           refine ⟨⟨I,⟨I,I,I,I⟩,I⟩,?_⟩
           refine W.ret ?_
           refine EndsW.rt ?_
           conv=>whnf
           refine ⟨⟨I,I,I,I,I⟩,?_,rfl⟩
           rw [replay_no h hl3 hc hs (step_no3 hr hk ht hrd)]; rfl
         ·conv=>whnf
          refine g 0 0 [] ?_
          conv=>whnf
          refine ⟨⟨I,I⟩,?_⟩
          refine W.sq ?_
          refine W.cn ?_
          conv=>whnf
          refine ⟨fun _=>?_,noF (by simp [*])⟩
          refine W.skip ?_
          refine W.sq ?_
          refine W.blk ?_
          refine g 27 30 [.x (strT s0)] ?_
          conv=>whnf
          refine ⟨⟨⟨(by omega),ixl (by assumption)⟩,I,I,I⟩,?_⟩
          refine g 30 35 [.call (tupE (some e)) ([[]])] ?_
          conv=>whnf
          refine ⟨⟨I,⟨⟨I,I⟩,I,⟨⟨I,I⟩,I⟩,⟨I,I⟩,(by assumption)⟩,I,I,I,I,⟨I,I,I,I,I⟩,I,I⟩,?_⟩
          refine W.sq ?_
          refine g 8 9 [] ?_
          conv=>whnf
          refine ⟨⟨I,I,I⟩,?_⟩
          refine W.cn ?_
          conv=>whnf
          refine ⟨noT (rfl),fun _=>?_⟩
          refine W.skip ?_
          refine W.sq ?_
          refine g 35 40 [] ?_
          conv=>whnf
          refine ⟨⟨I,I,I,I⟩,?_⟩
          refine W.cn ?_
          conv=>whnf
          refine ⟨noT (dF (by omega)),fun _=>?_⟩
          refine W.skip ?_
          refine W.sq ?_
          refine g 63 80 [.b (false),.b (false),.b (false),.b (false),.b (false),.b (false),.b (false),.b (false),.b (false),.b (false),.b (false),.n (Int.toNat (Entry.task e)),.b (false),.x (strT y),.b (false),.b (false),.b (true),.b (true),.b (true),.b (true),.b (true),.b (true),.b (true),.b (true),.b (true),.b (true),.b (true)] ?_
          conv=>whnf
          refine ⟨⟨I,I,I,I,I,⟨notF (by omega),I⟩,⟨notF (by omega),I⟩,⟨notF (by omega),I⟩,⟨notF (by omega),I⟩,⟨notF (by omega),I⟩,⟨notF (by omega),I⟩,notF (by omega),I,⟨(by simp [*]),I⟩,⟨(by simp [*]),I⟩,⟨(by simp [*]),I⟩,⟨(by simp [*]),(by omega),(by simp only [lens]; omega)⟩,⟨(by simp [*]),ixl (by assumption)⟩,⟨(by simp [*]),I⟩,(by simp [*]),I,notT (by omega),notT (by omega),notT (by omega),notT (by omega),notT (by omega),notT (by omega),notT (by omega),notT (by omega),notT (by omega),notT (by omega),notT (by omega),I⟩,?_⟩
          refine W.cn ?_
          conv=>whnf
          refine ⟨fun _=>?_,noF (rfl)⟩
          refine g 40 62 [] ?_
          conv=>whnf
          refine ⟨⟨I,⟨I,I,I,I⟩,I⟩,?_⟩
          refine W.ret ?_
          refine EndsW.rt ?_
          conv=>whnf
          refine ⟨⟨I,I,I,I,I⟩,?_,rfl⟩
          rw [replay_no h hl3 hc hs (step_no2 hr hk hy hye)]; rfl
        ·conv=>whnf
         refine g 0 0 [] ?_
         conv=>whnf
         refine ⟨⟨I,I⟩,?_⟩
         refine W.sq ?_
         refine W.cn ?_
         conv=>whnf
         refine ⟨fun _=>?_,noF (by simp [*])⟩
         refine W.skip ?_
         refine W.sq ?_
         refine W.blk ?_
         refine g 27 30 [.x (strT s0)] ?_
         conv=>whnf
         refine ⟨⟨⟨(by omega),ixl (by assumption)⟩,I,I,I⟩,?_⟩
         refine g 30 35 [.call (tupE (some e)) ([[]])] ?_
         conv=>whnf
         refine ⟨⟨I,⟨⟨I,I⟩,I,⟨⟨I,I⟩,I⟩,⟨I,I⟩,(by assumption)⟩,I,I,I,I,⟨I,I,I,I,I⟩,I,I⟩,?_⟩
         refine W.sq ?_
         refine g 8 9 [] ?_
         conv=>whnf
         refine ⟨⟨I,I,I⟩,?_⟩
         refine W.cn ?_
         conv=>whnf
         refine ⟨noT (rfl),fun _=>?_⟩
         refine W.skip ?_
         refine W.sq ?_
         refine g 35 40 [] ?_
         conv=>whnf
         refine ⟨⟨I,I,I,I⟩,?_⟩
         refine W.cn ?_
         conv=>whnf
         refine ⟨noT (dF (by omega)),fun _=>?_⟩
         refine W.skip ?_
         refine W.sq ?_
         refine g 63 80 [.b (false),.b (false),.b (false),.b (false),.b (false),.b (false),.b (false),.b (true),.b (true),.b (true),.b (true),.b (true),.b (true),.b (true),.b (true),.b (true),.b (true),.b (true),.b (true),.b (true),.b (true),.b (true),.b (true),.b (true),.b (true)] ?_
         conv=>whnf
         refine ⟨⟨I,I,I,I,I,⟨notF (by omega),I⟩,⟨notF (by omega),I⟩,⟨notF (by omega),I⟩,⟨notF (by omega),I⟩,⟨notF (by omega),I⟩,⟨notF (by omega),I⟩,notF (by omega),I,(by simp_all),(by simp_all),(by simp_all),(by simp_all),(by simp_all),(by simp_all),(by simp_all),I,rfl,rfl,rfl,rfl,rfl,rfl,rfl,rfl,rfl,rfl,rfl,I⟩,?_⟩
         refine W.cn ?_
         conv=>whnf
         refine ⟨fun _=>?_,noF (rfl)⟩
         refine g 40 62 [] ?_
         conv=>whnf
         refine ⟨⟨I,⟨I,I,I,I⟩,I⟩,?_⟩
         refine W.ret ?_
         refine EndsW.rt ?_
         conv=>whnf
         refine ⟨⟨I,I,I,I,I⟩,?_,rfl⟩
         rw [replay_no h hl3 hc hs (step_no1 hr hk (fun q=>hlt q.2))]; rfl
       ·conv=>whnf
        refine g 0 0 [] ?_
        conv=>whnf
        refine ⟨⟨I,I⟩,?_⟩
        refine W.sq ?_
        refine W.cn ?_
        conv=>whnf
        refine ⟨fun _=>?_,noF (by simp [*])⟩
        refine W.skip ?_
        refine W.sq ?_
        refine W.blk ?_
        refine g 27 30 [.x (strT s0)] ?_
        conv=>whnf
        refine ⟨⟨⟨(by omega),ixl (by assumption)⟩,I,I,I⟩,?_⟩
        refine g 30 35 [.call (tupE (some e)) ([[]])] ?_
        conv=>whnf
        refine ⟨⟨I,⟨⟨I,I⟩,I,⟨⟨I,I⟩,I⟩,⟨I,I⟩,(by assumption)⟩,I,I,I,I,⟨I,I,I,I,I⟩,I,I⟩,?_⟩
        refine W.sq ?_
        refine g 8 9 [] ?_
        conv=>whnf
        refine ⟨⟨I,I,I⟩,?_⟩
        refine W.cn ?_
        conv=>whnf
        refine ⟨noT (rfl),fun _=>?_⟩
        refine W.skip ?_
        refine W.sq ?_
        refine g 35 40 [] ?_
        conv=>whnf
        refine ⟨⟨I,I,I,I⟩,?_⟩
        refine W.cn ?_
        conv=>whnf
        refine ⟨noT (dF (by omega)),fun _=>?_⟩
        refine W.skip ?_
        refine W.sq ?_
        refine g 63 80 [.b (true),.b (true),.b (true),.b (true),.b (true),.b (true),.b (true),.b (true),.b (true),.b (true),.b (true),.b (true),.b (true),.b (true),.b (true),.b (true),.b (true),.b (true),.b (true),.b (true),.b (true),.b (true),.b (true),.b (true),.b (true)] ?_
        conv=>whnf
        refine ⟨⟨I,I,I,I,I,notT (by omega),notT (by omega),notT (by omega),notT (by omega),notT (by omega),notT (by omega),notT (by omega),I,rfl,rfl,rfl,rfl,rfl,rfl,rfl,I,rfl,rfl,rfl,rfl,rfl,rfl,rfl,rfl,rfl,rfl,rfl,I⟩,?_⟩
        refine W.cn ?_
        conv=>whnf
        refine ⟨fun _=>?_,noF (rfl)⟩
        refine g 40 62 [] ?_
        conv=>whnf
        refine ⟨⟨I,⟨I,I,I,I⟩,I⟩,?_⟩
        refine W.ret ?_
        refine EndsW.rt ?_
        conv=>whnf
        refine ⟨⟨I,I,I,I,I⟩,?_,rfl⟩
        rw [replay_no h hl3 hc hs (step_no1 hr hk (fun q=>heq q.1))]; rfl
   ·conv=>whnf
    refine g 0 0 [] ?_
    conv=>whnf
    refine ⟨⟨I,I⟩,?_⟩
    refine W.sq ?_
    refine W.cn ?_
    conv=>whnf
    refine ⟨noT (by simp [*]),fun _=>?_⟩
    refine W.exit ?_
    refine g 5 92 [] ?_
    conv=>whnf
    refine ⟨⟨I,I,I,⟨I,I,I,I⟩,I⟩,?_⟩
    refine W.ret ?_
    refine EndsW.rt ?_
    conv=>whnf
    refine ⟨⟨I,I,I,I,I⟩,?_,rfl⟩
    rw [replay_yes h hl3 hc (by omega)]
  ·refine i_impl_Replay ?_
   conv=>whnf
   refine g 0 0 [] ?_
   conv=>whnf
   refine ⟨⟨⟨I,I⟩,I,I⟩,?_⟩
   refine W.sq ?_
   refine g 13 18 [.call (V.i (0:Int)) ([[]]),.b (false),.b (false),.b (false),.b (false)] ?_
   conv=>whnf
   refine ⟨⟨I,⟨⟨I,I⟩,I,⟨⟨I,I⟩,I⟩,⟨I,I⟩,(by assumption)⟩,I,I,⟨rfl,I⟩,⟨rfl,I⟩,⟨rfl,I⟩,rfl,I⟩,?_⟩
   refine W.cn ?_
   conv=>whnf
   refine ⟨fun h1=>?_,fun h1=>?_⟩
   replace h1:=dt h1
   simp only [List.length_map] at h1
   refine g 18 20 [] ?_
   conv=>whnf
   refine ⟨⟨I,⟨I,I,I,I⟩,I⟩,?_⟩
   refine W.ret ?_
   refine EndsW.rt ?_
   conv=>whnf
   refine ⟨⟨I,I,I,I,I⟩,?_,rfl⟩
   rotate_left 1
   replace h1:=df h1
   simp only [List.length_map] at h1
   omega
   rw [replay_bad (fun q=>hl3 q.2)]; rfl
 ·refine i_impl_Replay ?_
  conv=>whnf
  refine g 0 0 [] ?_
  conv=>whnf
  refine ⟨⟨⟨I,I⟩,I,I⟩,?_⟩
  refine W.sq ?_
  refine g 13 18 [.call (V.i (checkPlan (Plan.tasks p))) ([[]]),.b (true),.b (true),.b (true),.b (true)] ?_
  conv=>whnf
  refine ⟨⟨I,⟨⟨I,I⟩,I,⟨⟨I,I⟩,I⟩,⟨I,I⟩,(by assumption)⟩,I,I,notT (by omega),notT (by omega),notT (by omega),notT (by omega),I⟩,?_⟩
  refine W.cn ?_
  conv=>whnf
  refine ⟨fun _=>?_,noF (rfl)⟩
  refine g 18 20 [] ?_
  conv=>whnf
  refine ⟨⟨I,⟨I,I,I,I⟩,I⟩,?_⟩
  refine W.ret ?_
  refine EndsW.rt ?_
  conv=>whnf
  refine ⟨⟨I,I,I,I,I⟩,?_,rfl⟩
  rw [replay_bad (fun q=>h q.1)]; rfl
theorem c_spec_Replay (p:Plan) (xs:List ByteArray) (hp:planWf p) (hx:∀ s ∈ xs,s.size ≤ 281474976710656) (hl:xs.length ≤ 9223372036854775806):F n_spec_Replay [.val (planR p),.val (.t (strs xs))] (storyO (replayP p xs)) [[],[]]:=by
 have c1:=c_spec_CheckPlan p hp
 by_cases h:checkPlan p.tasks = 0
 ·obtain ⟨⟨hl1,hl2⟩,_⟩:=chk_inv h
  rw [h] at c1
  by_cases hl3:xs.length ≤ 310
  ·refine i_spec_Replay ?_
   conv=>whnf
   refine g 0 0 [] ?_
   conv=>whnf
   refine ⟨⟨⟨I,I⟩,I,I⟩,?_⟩
   refine W.sq ?_
   refine g 10 13 [.call (V.i (0:Int)) ([[]]),.b (false),.b (false),.b (false),.b (false)] ?_
   conv=>whnf
   refine ⟨⟨I,⟨⟨I,I⟩,I,⟨⟨I,I⟩,I⟩,⟨I,I⟩,(by assumption)⟩,I,I,⟨rfl,I⟩,⟨rfl,I⟩,⟨rfl,I⟩,rfl,I⟩,?_⟩
   refine W.cn ?_
   conv=>whnf
   refine ⟨fun h1=>?_,fun h1=>?_⟩
   replace h1:=dt h1
   simp only [List.length_map] at h1
   omega
   replace h1:=df h1
   simp only [List.length_map] at h1
   refine W.skip ?_
   refine g 14 20 [] ?_
   conv=>whnf
   refine ⟨⟨I,I,⟨I,I,I,I⟩,I⟩,?_⟩
   refine W.sq ?_
   refine g 0 0 [] ?_
   conv=>whnf
   refine ⟨⟨I,I⟩,?_⟩
   refine W.blk ?_
   refine W.lp (fun s (n:Nat)=>⟨[(0,s.s 0),(1,s.s 1),(2,s.s 2),(4,s.s 4),(5,s.s 5),(6,.i n),(13,s.s 13)],[(2,[s.c 2 0]),(4,[s.c 4 0,s.c 4 1,s.c 4 2]),(5,[.t (.i 0),.t (.i 0),.own [false] ((List.replicate n emp).map strT)])],[]⟩) (fun (n:Nat)=>n ≤ p.tasks.length) (fun (n:Nat)=>p.tasks.length - n) (0) [some 2,some 4,some 5] [] ⟨rfl,⟨⟨_,rfl,_,_,rfl,rfl,rfl⟩,rfl,rfl,rfl,rfl,rfl,rfl,I⟩,⟨⟨rfl,⟨rfl,I⟩⟩,⟨⟨rfl,⟨rfl,⟨rfl,⟨rfl,I⟩⟩⟩⟩,⟨⟨rfl,⟨rfl,⟨rfl,⟨rfl,I⟩⟩⟩⟩,I⟩⟩⟩,I⟩ (by omega) ?_
   intro n hn
   conv=>whnf
   refine W.sq ?_
   refine g 20 22 [] ?_
   conv=>whnf
   refine ⟨⟨I,I,I,I,I,I⟩,?_⟩
   refine W.cn ?_
   conv=>whnf
   refine ⟨fun h2=>?_,fun h2=>?_⟩
   replace h2:=dt h2
   simp only [List.length_map] at h2
   refine W.skip ?_
   refine W.sq ?_
   refine W.blk ?_
   refine rg [] ?_
   conv=>whnf
   refine ⟨⟨I,I,⟨⟨I,I⟩,I⟩,⟨I,I,(by simp only [lens]; omega)⟩,I,⟨I,I⟩,I⟩,?_⟩
   refine rg [.i ((↑n:Int) + (1:Int))] ?_
   conv=>whnf
   refine ⟨⟨I,w64 (by omega) (by omega),I,I⟩,?_⟩
   rotate_left 1
   replace h2:=df h2
   simp only [List.length_map] at h2
   refine W.exit ?_
   refine W.sq ?_
   refine g 23 25 [] ?_
   conv=>whnf
   refine ⟨⟨I,I⟩,?_⟩
   refine W.blk ?_
   rotate_left 1
   ·refine ⟨n + 1,[some 2,some 4,some 5],[],⟨rfl,⟨⟨_,rfl,_,_,rfl,rfl,rfl⟩,rfl,rfl,rfl,rfl,rfl,rfl,I⟩,⟨⟨rfl,⟨rfl,I⟩⟩,⟨⟨rfl,⟨rfl,⟨rfl,⟨rfl,I⟩⟩⟩⟩,⟨⟨rfl,⟨rfl,⟨rfl,⟨(congrArg (V.own _) (by rw [List.replicate_succ',List.map_append]; rfl)),I⟩⟩⟩⟩,I⟩⟩⟩,I⟩,?_,?_⟩
    rotate_left 1
    (dsimp only; omega)
    dsimp only
    omega
   rw [show n = p.tasks.length by omega]
   refine W.lp (fun s (n:Nat)=>⟨[(0,s.s 0),(1,s.s 1),(2,s.s 2),(4,s.s 4),(5,s.s 5),(7,.i n),(13,s.s 13),(22,s.s 22)],[(2,[s.c 2 0]),(4,[s.c 4 0,s.c 4 1,s.c 4 2]),(5,[.t (.i 0),.t (.i (taleAt p.tasks xs n).epoch),.own [false] ((taleAt p.tasks xs n).results.map strT)])],[]⟩) (fun (n:Nat)=>n ≤ xs.length ∧ taleOk p.tasks xs n ∧ 0 ≤ (taleAt p.tasks xs n).epoch ∧ (taleAt p.tasks xs n).epoch ≤ 300) (fun (n:Nat)=>xs.length - n) (0) [some 2,some 4,some 5] [] ⟨rfl,⟨⟨_,rfl,_,_,rfl,rfl,rfl⟩,rfl,rfl,rfl,rfl,rfl,rfl,rfl,I⟩,⟨⟨rfl,⟨rfl,I⟩⟩,⟨⟨rfl,⟨rfl,⟨rfl,⟨rfl,I⟩⟩⟩⟩,⟨⟨rfl,⟨rfl,⟨rfl,⟨rfl,I⟩⟩⟩⟩,I⟩⟩⟩,I⟩ ?_ ?_
   ·rw [taleAt_zero]; exact ⟨Nat.zero_le _,taleOk_zero _ _,Int.le_refl _,by show (0:Int) ≤ 300; omega⟩
   rintro n ⟨hn,hc,he0,he1⟩
   have hrl:=tale_len hc
   by_cases hn2:n < xs.length
   ·obtain ⟨s0,hs⟩:=some_at hn2
    have hss:=hx s0 (List.mem_of_getElem? hs)
    have cr:=c_spec_ReadEntry s0 hss
    cases hr:readS s0 with
    | none =>
      rw [hr] at cr
      conv=>whnf
      refine W.sq ?_
      refine g 32 35 [] ?_
      conv=>whnf
      refine ⟨⟨I,I,I,I,I⟩,?_⟩
      refine W.cn ?_
      conv=>whnf
      refine ⟨fun _=>?_,noF (by simp [*])⟩
      refine W.skip ?_
      refine W.sq ?_
      refine W.blk ?_
      refine g 35 46 [.x (strT s0),.call (tupE none) ([[]])] ?_
      conv=>whnf
      refine ⟨⟨I,I,⟨(by omega),ixl (by assumption)⟩,I,⟨⟨I,I⟩,I,⟨⟨I,I⟩,I⟩,⟨I,I⟩,(by assumption)⟩,I,I,I,I,⟨I,I,I,I,I⟩,I,I⟩,?_⟩
      refine W.sq ?_
      refine g 9 10 [] ?_
      conv=>whnf
      refine ⟨⟨I,I,I⟩,?_⟩
      refine W.cn ?_
      conv=>whnf
      refine ⟨fun _=>?_,noF (rfl)⟩
      refine g 46 49 [] ?_
      conv=>whnf
      refine ⟨⟨I,⟨I,I,I,I⟩,I⟩,?_⟩
      refine W.ret ?_
      refine EndsW.rt ?_
      conv=>whnf
      refine ⟨⟨I,I,I,I,I⟩,?_,rfl⟩
      rw [replay_no h hl3 hc hs (step_none hr)]; rfl
    | some e =>
      rw [hr] at cr
      obtain ⟨r1,r2,r3,r4⟩:=tale_rng (ts:=p.tasks) (readS_rng hr)
      by_cases hk:e.kind = 1
      ·by_cases he:e.epoch = (taleAt p.tasks xs n).epoch + 1
       ·obtain ⟨hc2,e1⟩:=tale_step hc hs (step_ep hr hk he)
        conv=>whnf
        refine W.sq ?_
        refine g 32 35 [] ?_
        conv=>whnf
        refine ⟨⟨I,I,I,I,I⟩,?_⟩
        refine W.cn ?_
        conv=>whnf
        refine ⟨fun _=>?_,noF (by simp [*])⟩
        refine W.skip ?_
        refine W.sq ?_
        refine W.blk ?_
        refine g 35 46 [.x (strT s0),.call (tupE (some e)) ([[]])] ?_
        conv=>whnf
        refine ⟨⟨I,I,⟨(by omega),ixl (by assumption)⟩,I,⟨⟨I,I⟩,I,⟨⟨I,I⟩,I⟩,⟨I,I⟩,(by assumption)⟩,I,I,I,I,⟨I,I,I,I,I⟩,I,I⟩,?_⟩
        refine W.sq ?_
        refine g 9 10 [] ?_
        conv=>whnf
        refine ⟨⟨I,I,I⟩,?_⟩
        refine W.cn ?_
        conv=>whnf
        refine ⟨noT (rfl),fun _=>?_⟩
        refine W.skip ?_
        refine W.sq ?_
        refine g 46 51 [] ?_
        conv=>whnf
        refine ⟨⟨I,I,I,I⟩,?_⟩
        refine W.cn ?_
        conv=>whnf
        refine ⟨fun _=>?_,noF (dT (by omega))⟩
        refine W.sq ?_
        refine g 51 57 [.i (Tale.epoch (taleAt (Plan.tasks p) xs n) + (1:Int))] ?_
        conv=>whnf
        refine ⟨⟨I,I,I,I,w64 (by omega) (by omega),I,I⟩,?_⟩
        refine W.cn ?_
        conv=>whnf
        refine ⟨noT (notF (by omega)),fun _=>?_⟩
        refine W.skip ?_
        refine g 57 62 [] ?_
        conv=>whnf
        refine ⟨⟨I,I,I,⟨I,I⟩,I⟩,?_⟩
        refine W.exit ?_
        refine rg [.i ((↑n:Int) + (1:Int))] ?_
        conv=>whnf
        refine ⟨⟨I,w64 (by omega) (by omega),I,I⟩,?_⟩
        refine ⟨n + 1,[some 2,some 4,some 5],[],⟨rfl,⟨⟨_,rfl,_,_,rfl,rfl,rfl⟩,rfl,rfl,rfl,rfl,rfl,rfl,rfl,I⟩,⟨⟨rfl,⟨rfl,I⟩⟩,⟨⟨rfl,⟨rfl,⟨rfl,⟨rfl,I⟩⟩⟩⟩,⟨⟨rfl,⟨rfl,⟨(congrArg (fun z=>V.t (T.v (Value.int _ z))) (by rw [e1])),⟨(congrArg (V.own _) (by rw [e1])),I⟩⟩⟩⟩,I⟩⟩⟩,I⟩,?_,?_⟩
        rotate_left 1
        (dsimp only; omega)
        dsimp only
        exact ⟨by omega,hc2,by rw [e1]; dsimp only; omega,by rw [e1]; dsimp only; omega⟩
       ·conv=>whnf
        refine W.sq ?_
        refine g 32 35 [] ?_
        conv=>whnf
        refine ⟨⟨I,I,I,I,I⟩,?_⟩
        refine W.cn ?_
        conv=>whnf
        refine ⟨fun _=>?_,noF (by simp [*])⟩
        refine W.skip ?_
        refine W.sq ?_
        refine W.blk ?_
        refine g 35 46 [.x (strT s0),.call (tupE (some e)) ([[]])] ?_
        conv=>whnf
        refine ⟨⟨I,I,⟨(by omega),ixl (by assumption)⟩,I,⟨⟨I,I⟩,I,⟨⟨I,I⟩,I⟩,⟨I,I⟩,(by assumption)⟩,I,I,I,I,⟨I,I,I,I,I⟩,I,I⟩,?_⟩
        refine W.sq ?_
        refine g 9 10 [] ?_
        conv=>whnf
        refine ⟨⟨I,I,I⟩,?_⟩
        refine W.cn ?_
        conv=>whnf
        refine ⟨noT (rfl),fun _=>?_⟩
        refine W.skip ?_
        refine W.sq ?_
        refine g 46 51 [] ?_
        conv=>whnf
        refine ⟨⟨I,I,I,I⟩,?_⟩
        refine W.cn ?_
        conv=>whnf
        refine ⟨fun _=>?_,noF (dT (by omega))⟩
        refine W.sq ?_
        refine g 51 57 [.i (Tale.epoch (taleAt (Plan.tasks p) xs n) + (1:Int))] ?_
        conv=>whnf
        refine ⟨⟨I,I,I,I,w64 (by omega) (by omega),I,I⟩,?_⟩
        refine W.cn ?_
        conv=>whnf
        refine ⟨fun _=>?_,noF (notT (by omega))⟩
        refine g 57 59 [] ?_
        conv=>whnf
        refine ⟨⟨I,⟨I,I,I,I⟩,I⟩,?_⟩
        refine W.ret ?_
        refine EndsW.rt ?_
        conv=>whnf
        refine ⟨⟨I,I,I,I,I⟩,?_,rfl⟩
        rw [replay_no h hl3 hc hs (step_ep_no hr hk he)]; rfl
      ·by_cases heq:e.epoch = (taleAt p.tasks xs n).epoch
       ·by_cases hlt:e.task < p.tasks.length
        ·obtain ⟨t,ht⟩:=some_at (xs:=p.tasks) (n:=e.task.toNat) (by omega)
         obtain ⟨y,hy⟩:=some_at (xs:=(taleAt p.tasks xs n).results) (n:=e.task.toNat) (by omega)
         by_cases hye:y = emp
         ·obtain ⟨_,_,a3,a4⟩:=chk_task h ht
          have cd:=c_spec_l4Deps p (taleAt p.tasks xs n).results e.task r1 ht (fun d hd=>by have:=a4 d hd; omega) (by omega)
          by_cases hrd:readyB (taleAt p.tasks xs n).results t.deps
          ·rw [decide_eq_true hrd] at cd
           obtain ⟨hc2,e1⟩:=tale_step hc hs (step_res hr hk heq hlt hy hye ht hrd)
           conv=>whnf
           refine W.sq ?_
           refine g 32 35 [] ?_
           conv=>whnf
           refine ⟨⟨I,I,I,I,I⟩,?_⟩
           refine W.cn ?_
           conv=>whnf
           refine ⟨fun _=>?_,noF (by simp [*])⟩
           refine W.skip ?_
           refine W.sq ?_
           refine W.blk ?_
           refine g 35 46 [.x (strT s0),.call (tupE (some e)) ([[]])] ?_
           conv=>whnf
           refine ⟨⟨I,I,⟨(by omega),ixl (by assumption)⟩,I,⟨⟨I,I⟩,I,⟨⟨I,I⟩,I⟩,⟨I,I⟩,(by assumption)⟩,I,I,I,I,⟨I,I,I,I,I⟩,I,I⟩,?_⟩
           refine W.sq ?_
           refine g 9 10 [] ?_
           conv=>whnf
           refine ⟨⟨I,I,I⟩,?_⟩
           refine W.cn ?_
           conv=>whnf
           refine ⟨noT (rfl),fun _=>?_⟩
           refine W.skip ?_
           refine W.sq ?_
           refine g 46 51 [] ?_
           conv=>whnf
           refine ⟨⟨I,I,I,I⟩,?_⟩
           refine W.cn ?_
           conv=>whnf
           refine ⟨noT (dF (by omega)),fun _=>?_⟩
           refine W.skip ?_
           refine W.sq ?_
           refine g 63 92 [.b (false),.b (false),.b (false),.b (false),.b (false),.b (false),.b (false),.b (false),.b (false),.b (false),.b (false),.b (false),.n (Int.toNat (Entry.task e)),.b (false),.x (strT y),.b (false),.b (false),.b (false),.b (false),.b (false),.b (false),.b (false),.b (false),.call (V.b true) ([[],[],[]]),.b (false),.b (false)] ?_
           conv=>whnf
           refine ⟨⟨I,I,I,I,I,I,⟨notF (by omega),I⟩,⟨notF (by omega),I⟩,⟨notF (by omega),I⟩,⟨notF (by omega),I⟩,⟨notF (by omega),I⟩,⟨notF (by omega),I⟩,notF (by omega),I,⟨(by simp [*]),I⟩,⟨(by simp [*]),I⟩,⟨(by simp [*]),I⟩,⟨(by simp [*]),I⟩,⟨(by simp [*]),(by omega),(by simp only [lens]; omega)⟩,⟨(by simp [*]),ixl (by assumption)⟩,⟨(by simp [*]),I⟩,(by simp [*]),I,⟨notF (by omega),I⟩,⟨notF (by omega),I⟩,⟨notF (by omega),I⟩,⟨notF (by omega),I⟩,⟨notF (by omega),I⟩,⟨notF (by omega),⟨I,I,I,I⟩,I,⟨⟨I,I⟩,⟨I,I⟩,⟨I,I⟩,I⟩,⟨I,I⟩,(by assumption)⟩,⟨notF (by omega),I⟩,notF (by omega),I⟩,?_⟩
           refine W.cn ?_
           conv=>whnf
           refine ⟨noT (rfl),fun _=>?_⟩
           refine W.skip ?_
           refine rg [.n (Int.toNat (Entry.task e)),.x (strT y)] ?_
           conv=>whnf
           refine ⟨⟨I,I,I,I,I,I,⟨(by omega),(by simp only [lens]; omega)⟩,⟨⟨I,I⟩,ixl (by assumption)⟩,I⟩,?_⟩
           refine rg [.i ((↑n:Int) + (1:Int))] ?_
           conv=>whnf
           refine ⟨⟨I,w64 (by omega) (by omega),I,I⟩,?_⟩
           refine ⟨n + 1,[some 2,some 4,some 5],[],⟨rfl,⟨⟨_,rfl,_,_,rfl,rfl,rfl⟩,rfl,rfl,rfl,rfl,rfl,rfl,rfl,I⟩,⟨⟨rfl,⟨rfl,I⟩⟩,⟨⟨rfl,⟨rfl,⟨rfl,⟨rfl,I⟩⟩⟩⟩,⟨⟨rfl,⟨rfl,⟨(congrArg (fun z=>V.t (T.v (Value.int _ z))) (by rw [e1])),⟨(congrArg (V.own _) (by rw [e1,List.map_set]; rfl)),I⟩⟩⟩⟩,I⟩⟩⟩,I⟩,?_,?_⟩
           rotate_left 1
           (dsimp only; omega)
           dsimp only
           exact ⟨by omega,hc2,by rw [e1]; dsimp only; omega,by rw [e1]; dsimp only; omega⟩
          ·rw [decide_eq_false hrd] at cd
           conv=>whnf
           refine W.sq ?_
           refine g 32 35 [] ?_
           conv=>whnf
           refine ⟨⟨I,I,I,I,I⟩,?_⟩
           refine W.cn ?_
           conv=>whnf
           refine ⟨fun _=>?_,noF (by simp [*])⟩
           refine W.skip ?_
           refine W.sq ?_
           refine W.blk ?_
           refine g 35 46 [.x (strT s0),.call (tupE (some e)) ([[]])] ?_
           conv=>whnf
           refine ⟨⟨I,I,⟨(by omega),ixl (by assumption)⟩,I,⟨⟨I,I⟩,I,⟨⟨I,I⟩,I⟩,⟨I,I⟩,(by assumption)⟩,I,I,I,I,⟨I,I,I,I,I⟩,I,I⟩,?_⟩
           refine W.sq ?_
           refine g 9 10 [] ?_
           conv=>whnf
           refine ⟨⟨I,I,I⟩,?_⟩
           refine W.cn ?_
           conv=>whnf
           refine ⟨noT (rfl),fun _=>?_⟩
           refine W.skip ?_
           refine W.sq ?_
           refine g 46 51 [] ?_
           conv=>whnf
           refine ⟨⟨I,I,I,I⟩,?_⟩
           refine W.cn ?_
           conv=>whnf
           refine ⟨noT (dF (by omega)),fun _=>?_⟩
           refine W.skip ?_
           refine W.sq ?_
           refine g 63 92 [.b (false),.b (false),.b (false),.b (false),.b (false),.b (false),.b (false),.b (false),.b (false),.b (false),.b (false),.b (false),.n (Int.toNat (Entry.task e)),.b (false),.x (strT y),.b (false),.b (false),.b (false),.b (false),.b (false),.b (false),.b (false),.b (false),.call (V.b false) ([[],[],[]]),.b (false),.b (false)] ?_
           conv=>whnf
           refine ⟨⟨I,I,I,I,I,I,⟨notF (by omega),I⟩,⟨notF (by omega),I⟩,⟨notF (by omega),I⟩,⟨notF (by omega),I⟩,⟨notF (by omega),I⟩,⟨notF (by omega),I⟩,notF (by omega),I,⟨(by simp [*]),I⟩,⟨(by simp [*]),I⟩,⟨(by simp [*]),I⟩,⟨(by simp [*]),I⟩,⟨(by simp [*]),(by omega),(by simp only [lens]; omega)⟩,⟨(by simp [*]),ixl (by assumption)⟩,⟨(by simp [*]),I⟩,(by simp [*]),I,⟨notF (by omega),I⟩,⟨notF (by omega),I⟩,⟨notF (by omega),I⟩,⟨notF (by omega),I⟩,⟨notF (by omega),I⟩,⟨notF (by omega),⟨I,I,I,I⟩,I,⟨⟨I,I⟩,⟨I,I⟩,⟨I,I⟩,I⟩,⟨I,I⟩,(by assumption)⟩,⟨notF (by omega),I⟩,notF (by omega),I⟩,?_⟩
           refine W.cn ?_
           conv=>whnf
           refine ⟨fun _=>?_,noF (rfl)⟩
           refine g 92 94 [] ?_
           conv=>whnf
           refine ⟨⟨I,⟨I,I,I,I⟩,I⟩,?_⟩
           refine W.ret ?_
           refine EndsW.rt ?_
           conv=>whnf
           refine ⟨⟨I,I,I,I,I⟩,?_,rfl⟩
           rw [replay_no h hl3 hc hs (step_no3 hr hk ht hrd)]; rfl
         ·conv=>whnf
          refine W.sq ?_
          refine g 32 35 [] ?_
          conv=>whnf
          refine ⟨⟨I,I,I,I,I⟩,?_⟩
          refine W.cn ?_
          conv=>whnf
          refine ⟨fun _=>?_,noF (by simp [*])⟩
          refine W.skip ?_
          refine W.sq ?_
          refine W.blk ?_
          refine g 35 46 [.x (strT s0),.call (tupE (some e)) ([[]])] ?_
          conv=>whnf
          refine ⟨⟨I,I,⟨(by omega),ixl (by assumption)⟩,I,⟨⟨I,I⟩,I,⟨⟨I,I⟩,I⟩,⟨I,I⟩,(by assumption)⟩,I,I,I,I,⟨I,I,I,I,I⟩,I,I⟩,?_⟩
          refine W.sq ?_
          refine g 9 10 [] ?_
          conv=>whnf
          refine ⟨⟨I,I,I⟩,?_⟩
          refine W.cn ?_
          conv=>whnf
          refine ⟨noT (rfl),fun _=>?_⟩
          refine W.skip ?_
          refine W.sq ?_
          refine g 46 51 [] ?_
          conv=>whnf
          refine ⟨⟨I,I,I,I⟩,?_⟩
          refine W.cn ?_
          conv=>whnf
          refine ⟨noT (dF (by omega)),fun _=>?_⟩
          refine W.skip ?_
          refine W.sq ?_
          refine g 63 92 [.b (false),.b (false),.b (false),.b (false),.b (false),.b (false),.b (false),.b (false),.b (false),.b (false),.b (false),.b (false),.n (Int.toNat (Entry.task e)),.b (false),.x (strT y),.b (false),.b (false),.b (true),.b (true),.b (true),.b (true),.b (true),.b (true),.b (true),.b (true)] ?_
          conv=>whnf
          refine ⟨⟨I,I,I,I,I,I,⟨notF (by omega),I⟩,⟨notF (by omega),I⟩,⟨notF (by omega),I⟩,⟨notF (by omega),I⟩,⟨notF (by omega),I⟩,⟨notF (by omega),I⟩,notF (by omega),I,⟨(by simp [*]),I⟩,⟨(by simp [*]),I⟩,⟨(by simp [*]),I⟩,⟨(by simp [*]),I⟩,⟨(by simp [*]),(by omega),(by simp only [lens]; omega)⟩,⟨(by simp [*]),ixl (by assumption)⟩,⟨(by simp [*]),I⟩,(by simp [*]),I,notT (by omega),notT (by omega),notT (by omega),notT (by omega),notT (by omega),notT (by omega),notT (by omega),notT (by omega),I⟩,?_⟩
          refine W.cn ?_
          conv=>whnf
          refine ⟨fun _=>?_,noF (rfl)⟩
          refine g 92 94 [] ?_
          conv=>whnf
          refine ⟨⟨I,⟨I,I,I,I⟩,I⟩,?_⟩
          refine W.ret ?_
          refine EndsW.rt ?_
          conv=>whnf
          refine ⟨⟨I,I,I,I,I⟩,?_,rfl⟩
          rw [replay_no h hl3 hc hs (step_no2 hr hk hy hye)]; rfl
        ·conv=>whnf
         refine W.sq ?_
         refine g 32 35 [] ?_
         conv=>whnf
         refine ⟨⟨I,I,I,I,I⟩,?_⟩
         refine W.cn ?_
         conv=>whnf
         refine ⟨fun _=>?_,noF (by simp [*])⟩
         refine W.skip ?_
         refine W.sq ?_
         refine W.blk ?_
         refine g 35 46 [.x (strT s0),.call (tupE (some e)) ([[]])] ?_
         conv=>whnf
         refine ⟨⟨I,I,⟨(by omega),ixl (by assumption)⟩,I,⟨⟨I,I⟩,I,⟨⟨I,I⟩,I⟩,⟨I,I⟩,(by assumption)⟩,I,I,I,I,⟨I,I,I,I,I⟩,I,I⟩,?_⟩
         refine W.sq ?_
         refine g 9 10 [] ?_
         conv=>whnf
         refine ⟨⟨I,I,I⟩,?_⟩
         refine W.cn ?_
         conv=>whnf
         refine ⟨noT (rfl),fun _=>?_⟩
         refine W.skip ?_
         refine W.sq ?_
         refine g 46 51 [] ?_
         conv=>whnf
         refine ⟨⟨I,I,I,I⟩,?_⟩
         refine W.cn ?_
         conv=>whnf
         refine ⟨noT (dF (by omega)),fun _=>?_⟩
         refine W.skip ?_
         refine W.sq ?_
         refine g 63 92 [.b (false),.b (false),.b (false),.b (false),.b (false),.b (false),.b (false),.b (true),.b (true),.b (true),.b (true),.b (true),.b (true),.b (true),.b (true),.b (true),.b (true),.b (true),.b (true),.b (true),.b (true),.b (true),.b (true)] ?_
         conv=>whnf
         refine ⟨⟨I,I,I,I,I,I,⟨notF (by omega),I⟩,⟨notF (by omega),I⟩,⟨notF (by omega),I⟩,⟨notF (by omega),I⟩,⟨notF (by omega),I⟩,⟨notF (by omega),I⟩,notF (by omega),I,(by simp_all),(by simp_all),(by simp_all),(by simp_all),(by simp_all),(by simp_all),(by simp_all),(by simp_all),I,rfl,rfl,rfl,rfl,rfl,rfl,rfl,rfl,I⟩,?_⟩
         refine W.cn ?_
         conv=>whnf
         refine ⟨fun _=>?_,noF (rfl)⟩
         refine g 92 94 [] ?_
         conv=>whnf
         refine ⟨⟨I,⟨I,I,I,I⟩,I⟩,?_⟩
         refine W.ret ?_
         refine EndsW.rt ?_
         conv=>whnf
         refine ⟨⟨I,I,I,I,I⟩,?_,rfl⟩
         rw [replay_no h hl3 hc hs (step_no1 hr hk (fun q=>hlt q.2))]; rfl
       ·conv=>whnf
        refine W.sq ?_
        refine g 32 35 [] ?_
        conv=>whnf
        refine ⟨⟨I,I,I,I,I⟩,?_⟩
        refine W.cn ?_
        conv=>whnf
        refine ⟨fun _=>?_,noF (by simp [*])⟩
        refine W.skip ?_
        refine W.sq ?_
        refine W.blk ?_
        refine g 35 46 [.x (strT s0),.call (tupE (some e)) ([[]])] ?_
        conv=>whnf
        refine ⟨⟨I,I,⟨(by omega),ixl (by assumption)⟩,I,⟨⟨I,I⟩,I,⟨⟨I,I⟩,I⟩,⟨I,I⟩,(by assumption)⟩,I,I,I,I,⟨I,I,I,I,I⟩,I,I⟩,?_⟩
        refine W.sq ?_
        refine g 9 10 [] ?_
        conv=>whnf
        refine ⟨⟨I,I,I⟩,?_⟩
        refine W.cn ?_
        conv=>whnf
        refine ⟨noT (rfl),fun _=>?_⟩
        refine W.skip ?_
        refine W.sq ?_
        refine g 46 51 [] ?_
        conv=>whnf
        refine ⟨⟨I,I,I,I⟩,?_⟩
        refine W.cn ?_
        conv=>whnf
        refine ⟨noT (dF (by omega)),fun _=>?_⟩
        refine W.skip ?_
        refine W.sq ?_
        refine g 63 92 [.b (true),.b (true),.b (true),.b (true),.b (true),.b (true),.b (true),.b (true),.b (true),.b (true),.b (true),.b (true),.b (true),.b (true),.b (true),.b (true),.b (true),.b (true),.b (true),.b (true),.b (true),.b (true),.b (true)] ?_
        conv=>whnf
        refine ⟨⟨I,I,I,I,I,I,notT (by omega),notT (by omega),notT (by omega),notT (by omega),notT (by omega),notT (by omega),notT (by omega),I,rfl,rfl,rfl,rfl,rfl,rfl,rfl,rfl,I,rfl,rfl,rfl,rfl,rfl,rfl,rfl,rfl,I⟩,?_⟩
        refine W.cn ?_
        conv=>whnf
        refine ⟨fun _=>?_,noF (rfl)⟩
        refine g 92 94 [] ?_
        conv=>whnf
        refine ⟨⟨I,⟨I,I,I,I⟩,I⟩,?_⟩
        refine W.ret ?_
        refine EndsW.rt ?_
        conv=>whnf
        refine ⟨⟨I,I,I,I,I⟩,?_,rfl⟩
        rw [replay_no h hl3 hc hs (step_no1 hr hk (fun q=>heq q.1))]; rfl
   ·conv=>whnf
    refine W.sq ?_
    refine g 32 35 [] ?_
    conv=>whnf
    refine ⟨⟨I,I,I,I,I⟩,?_⟩
    refine W.cn ?_
    conv=>whnf
    refine ⟨noT (by simp [*]),fun _=>?_⟩
    refine W.exit ?_
    refine g 5 102 [] ?_
    conv=>whnf
    refine ⟨⟨I,⟨I,I,I,I⟩,I⟩,?_⟩
    refine W.ret ?_
    refine EndsW.rt ?_
    conv=>whnf
    refine ⟨⟨I,I,I,I,I⟩,?_,rfl⟩
    rw [replay_yes h hl3 hc (by omega)]
  ·refine i_spec_Replay ?_
   conv=>whnf
   refine g 0 0 [] ?_
   conv=>whnf
   refine ⟨⟨⟨I,I⟩,I,I⟩,?_⟩
   refine W.sq ?_
   refine g 10 13 [.call (V.i (0:Int)) ([[]]),.b (false),.b (false),.b (false),.b (false)] ?_
   conv=>whnf
   refine ⟨⟨I,⟨⟨I,I⟩,I,⟨⟨I,I⟩,I⟩,⟨I,I⟩,(by assumption)⟩,I,I,⟨rfl,I⟩,⟨rfl,I⟩,⟨rfl,I⟩,rfl,I⟩,?_⟩
   refine W.cn ?_
   conv=>whnf
   refine ⟨fun h1=>?_,fun h1=>?_⟩
   replace h1:=dt h1
   simp only [List.length_map] at h1
   refine g 14 19 [] ?_
   conv=>whnf
   refine ⟨⟨I,⟨I,I,I,I⟩,I⟩,?_⟩
   refine W.ret ?_
   refine EndsW.rt ?_
   conv=>whnf
   refine ⟨⟨I,I,I,I,I⟩,?_,rfl⟩
   rotate_left 1
   replace h1:=df h1
   simp only [List.length_map] at h1
   omega
   rw [replay_bad (fun q=>hl3 q.2)]; rfl
 ·refine i_spec_Replay ?_
  conv=>whnf
  refine g 0 0 [] ?_
  conv=>whnf
  refine ⟨⟨⟨I,I⟩,I,I⟩,?_⟩
  refine W.sq ?_
  refine g 10 13 [.call (V.i (checkPlan (Plan.tasks p))) ([[]]),.b (true),.b (true),.b (true),.b (true)] ?_
  conv=>whnf
  refine ⟨⟨I,⟨⟨I,I⟩,I,⟨⟨I,I⟩,I⟩,⟨I,I⟩,(by assumption)⟩,I,I,notT (by omega),notT (by omega),notT (by omega),notT (by omega),I⟩,?_⟩
  refine W.cn ?_
  conv=>whnf
  refine ⟨fun _=>?_,noF (rfl)⟩
  refine g 14 19 [] ?_
  conv=>whnf
  refine ⟨⟨I,⟨I,I,I,I⟩,I⟩,?_⟩
  refine W.ret ?_
  refine EndsW.rt ?_
  conv=>whnf
  refine ⟨⟨I,I,I,I,I⟩,?_,rfl⟩
  rw [replay_bad (fun q=>h q.1)]; rfl
end Go.K
end
section
set_option linter.unusedVariables false
set_option linter.unusedSimpArgs false
set_option maxHeartbeats 4000000
set_option maxRecDepth 20000
open Go Go.Tm Go.Proofs
namespace Go.K
theorem c_impl_clone (xs:List ByteArray) (hl:xs.length ≤ 1048576):F n_impl_clone [.val (.t (strs xs))] (.own [false] (xs.map strT)) [[]]:=by
 refine i_impl_clone ?_
 conv=>whnf
 refine g 0 0 [] ?_
 conv=>whnf
 refine ⟨⟨I,I⟩,?_⟩
 refine g 3 6 [] ?_
 conv=>whnf
 refine ⟨⟨I,I,⟨I,I,(by simp only [lens]; omega)⟩,I,I⟩,?_⟩
 refine W.ret ?_
 refine EndsW.rt ?_
 conv=>whnf
 refine ⟨⟨I,I,I⟩,?_,rfl⟩
 rfl
end Go.K
end
section
set_option linter.unusedVariables false
set_option linter.unusedSimpArgs false
set_option maxHeartbeats 4000000
set_option maxRecDepth 20000
open Go Go.Tm Go.Proofs
namespace Go.K
structure Log where
 safe:List ByteArray
 loose:List ByteArray
 deriving DecidableEq
abbrev logT (x:Log):List T:=[.slc [false] (x.safe.map strT),.slc [false] (x.loose.map strT)]
abbrev logR (x:Log):V:=.agg [.t (.slc [false] (x.safe.map strT)),.t (.slc [false] (x.loose.map strT))]
abbrev logO (x:Log):V:=.agg [.own [false] (x.safe.map strT),.own [false] (x.loose.map strT)]
def logSz (x:Log):Int:=((x.safe.length:Int) + totS x.safe) + ((x.loose.length:Int) + totS x.loose)
theorem logSz_nn (x:Log):0 ≤ logSz x:=by
 have hn0:=totS_nn x.safe
 have hn1:=totS_nn x.loose
 simp only [logSz]; omega
def logWf (x:Log):Prop:=x.safe.length ≤ 9223372036854775807 ∧ (∀ s ∈ x.safe,s.size ≤ 9223372036854775807) ∧ x.loose.length ≤ 9223372036854775807 ∧ (∀ s ∈ x.loose,s.size ≤ 9223372036854775807)
structure Job where
 lease:Int
 worker:Int
 til:Int
 deriving DecidableEq
abbrev jobT (x:Job):List T:=[.i x.lease,.i x.worker,.i x.til]
abbrev jobR (x:Job):V:=.agg [.t (.i x.lease),.t (.i x.worker),.t (.i x.til)]
abbrev jobO (x:Job):V:=.agg [.t (.i x.lease),.t (.i x.worker),.t (.i x.til)]
abbrev jobK:List Bool:=[false,false,false]
abbrev noJob:Job:=⟨0,0,0⟩
def jobWf (x:Job):Prop:=True
structure Seat where
 free:Bool
 epoch:Int
 deriving DecidableEq
abbrev seatT (x:Seat):List T:=[.b x.free,.i x.epoch]
abbrev seatR (x:Seat):V:=.agg [.t (.b x.free),.t (.i x.epoch)]
abbrev seatO (x:Seat):V:=.agg [.t (.b x.free),.t (.i x.epoch)]
abbrev seatK:List Bool:=[false,false]
abbrev noSeat:Seat:=⟨false,0⟩
def seatWf (x:Seat):Prop:=True
structure Owed where
 worker:Int
 lease:Int
 task:Int
 deriving DecidableEq
abbrev owedT (x:Owed):List T:=[.i x.worker,.i x.lease,.i x.task]
abbrev owedR (x:Owed):V:=.agg [.t (.i x.worker),.t (.i x.lease),.t (.i x.task)]
abbrev owedO (x:Owed):V:=.agg [.t (.i x.worker),.t (.i x.lease),.t (.i x.task)]
abbrev owedK:List Bool:=[false,false,false]
abbrev noOwed:Owed:=⟨0,0,0⟩
def owedWf (x:Owed):Prop:=True
structure Boss where
 workers:Int
 up:Bool
 now:Int
 since:Int
 epoch:Int
 given:Int
 log:Log
 results:List ByteArray
 jobs:List Job
 seats:List Seat
 owed:List Owed
 deriving DecidableEq
abbrev bossT (x:Boss):List T:=[.i x.workers,.b x.up,.i x.now,.i x.since,.i x.epoch,.i x.given,.slc [false] (x.log.safe.map strT),.slc [false] (x.log.loose.map strT),.slc [false] (x.results.map strT),.slc jobK (x.jobs.map jobT),.slc seatK (x.seats.map seatT),.slc owedK (x.owed.map owedT)]
abbrev bossR (x:Boss):V:=.agg [.t (.i x.workers),.t (.b x.up),.t (.i x.now),.t (.i x.since),.t (.i x.epoch),.t (.i x.given),.t (.slc [false] (x.log.safe.map strT)),.t (.slc [false] (x.log.loose.map strT)),.t (.slc [false] (x.results.map strT)),.t (.slc jobK (x.jobs.map jobT)),.t (.slc seatK (x.seats.map seatT)),.t (.slc owedK (x.owed.map owedT))]
abbrev bossO (x:Boss):V:=.agg [.t (.i x.workers),.t (.b x.up),.t (.i x.now),.t (.i x.since),.t (.i x.epoch),.t (.i x.given),.own [false] (x.log.safe.map strT),.own [false] (x.log.loose.map strT),.own [false] (x.results.map strT),.own jobK (x.jobs.map jobT),.own seatK (x.seats.map seatT),.own owedK (x.owed.map owedT)]
abbrev noBoss:Boss:=⟨0,false,0,0,0,0,⟨[],[]⟩,[],[],[],[]⟩
def bossSz (x:Boss):Int:=logSz x.log + ((x.results.length:Int) + totS x.results) + ((x.jobs.length:Int)) + ((x.seats.length:Int)) + ((x.owed.length:Int))
theorem bossSz_nn (x:Boss):0 ≤ bossSz x:=by
 have hn0:=logSz_nn x.log
 have hn1:=totS_nn x.results
 simp only [bossSz]; omega
def bossWf (x:Boss):Prop:=logWf x.log ∧ x.results.length ≤ 9223372036854775807 ∧ (∀ s ∈ x.results,s.size ≤ 9223372036854775807) ∧ x.jobs.length ≤ 9223372036854775807 ∧ x.seats.length ≤ 9223372036854775807 ∧ x.owed.length ≤ 9223372036854775807
def atS (rs:List ByteArray) (k:Int):ByteArray:=(rs[k.toNat]?).getD emp
def depsOf (ts:List Task) (n:Nat):List Int:=((ts[n]?).map Task.deps).getD []
structure JobOk (b:Boss) (ts:List Task) (i:Nat) (j:Job):Prop where
 lease:(b.epoch - 1) * 1000000 + 1 ≤ j.lease ∧ j.lease ≤ (b.epoch - 1) * 1000000 + b.given
 worker:1 ≤ j.worker ∧ j.worker ≤ b.workers
 til:b.now + 1 ≤ j.til ∧ j.til ≤ b.now + 12
 res:atS b.results (i:Int) = emp
 ready:readyB b.results (depsOf ts i)
 once:j.lease ∉ (b.jobs.take i).map Job.lease
def jobOk (b:Boss) (ts:List Task) (i:Nat) (j:Job):Prop:=(j.lease = 0 → j.worker = 0 ∧ j.til = 0) ∧ (¬ j.lease = 0 → JobOk b ts i j)
def jobsTo (b:Boss) (ts:List Task) (n:Nat):Prop:=∀ (m:Nat) (j:Job),m < n → b.jobs[m]? = some j → jobOk b ts m j
structure OwedOk (b:Boss) (ts:List Task) (o:Owed):Prop where
 worker:1 ≤ o.worker ∧ o.worker ≤ b.workers
 lease:1 ≤ o.lease ∧ o.lease ≤ 300000000
 task:0 ≤ o.task ∧ o.task ≤ (ts.length:Int) - 1
 res:¬ atS b.results o.task = emp
structure UpOk (b:Boss) (ts:List Task) (st:Story):Prop where
 epoch:b.epoch = st.epoch
 pos:1 ≤ b.epoch
 rlen:b.results.length = ts.length
 jlen:b.jobs.length = ts.length
 slen:(b.seats.length:Int) = b.workers
 res:b.results = st.results
 since:0 ≤ b.since ∧ b.since ≤ 1
 given:0 ≤ b.given ∧ b.given ≤ 1000000
 olen:b.owed.length ≤ 2000
 jobs:jobsTo b ts b.jobs.length
 seats:∀ s ∈ b.seats,0 ≤ s.epoch ∧ s.epoch ≤ 300
 owed:∀ o ∈ b.owed,OwedOk b ts o
structure DownOk (b:Boss):Prop where
 loose:b.log.loose.length = 0
 since:b.since = 0
 epoch:b.epoch = 0
 given:b.given = 0
 res:b.results.length = 0
 jobs:b.jobs.length = 0
 seats:b.seats.length = 0
 owed:b.owed.length = 0
noncomputable def bossS (b:Boss) (p:Plan):Story:=replayP p (b.log.safe ++ b.log.loose)
structure BossOk (b:Boss) (p:Plan):Prop where
 plan:checkPlan p.tasks = 0
 workers:1 ≤ b.workers ∧ b.workers ≤ 8
 now:0 ≤ b.now ∧ b.now ≤ 1000000
 code:(bossS b p).code = 0
 up:b.up = true → UpOk b p.tasks (bossS b p)
 down:b.up = false → DownOk b
noncomputable instance (b:Boss) (p:Plan):Decidable (BossOk b p):=Classical.propDecidable _
theorem no_up {b:Boss} {p:Plan} (hup:b.up = true) (h:¬ UpOk b p.tasks (bossS b p)):¬ BossOk b p:=fun q=>h (q.up hup)
theorem no_down {b:Boss} {p:Plan} (hup:b.up = false) (h:¬ DownOk b):¬ BossOk b p:=fun q=>h (q.down hup)
theorem replay_len {p:Plan} {xs:List ByteArray} (h:(replayP p xs).code = 0):checkPlan p.tasks = 0 ∧ xs.length ≤ 310 ∧ (replayP p xs).results.length = p.tasks.length ∧ ∃ t,runR p.tasks (some (tale0 p.tasks)) xs = some t ∧ replayP p xs = ⟨0,t.epoch,t.results⟩:=by
 unfold replayP at h ⊢
 by_cases hq:checkPlan p.tasks = 0 ∧ xs.length ≤ 310
 ·rw [if_pos hq] at h ⊢
  cases hr:runR p.tasks (some (tale0 p.tasks)) xs with
  | none=>rw [hr] at h; cases h
  | some t =>
    refine ⟨hq.1,hq.2,?_,t,rfl,rfl⟩
    have:=runR_len p.tasks xs _ _ hr
    rw [tale0,List.length_replicate] at this
    exact this
 ·rw [if_neg hq] at h; cases h
theorem stepR_ep {ts:List Task} {t t':Tale} {s:ByteArray} (h:stepR ts t s = some t') (h0:0 ≤ t.epoch ∧ t.epoch ≤ 300):0 ≤ t'.epoch ∧ t'.epoch ≤ 300:=by
 unfold stepR at h
 split at h
 ·cases h
 ·rename_i e he
  have hr:=readS_rng he
  split at h
  ·split at h
   ·cases h; have:=hr.1; exact ⟨by dsimp only; omega,this.2⟩
   ·cases h
  ·split at h
   ·cases h; exact h0
   ·cases h
theorem runR_ep {ts:List Task}:∀ {l:List ByteArray} {t t':Tale},runR ts (some t) l = some t' → 0 ≤ t.epoch ∧ t.epoch ≤ 300 → 0 ≤ t'.epoch ∧ t'.epoch ≤ 300
 | [],t,t',h,h0=>by rw [runR_nil] at h; cases h; exact h0
 | s :: l,t,t',h,h0=>by
   rw [runR_cons] at h
   cases hs:stepR ts t s with
   | none=>rw [hs,runR_none] at h; cases h
   | some u=>rw [hs] at h; exact runR_ep h (stepR_ep hs h0)
theorem replay_ep {p:Plan} {xs:List ByteArray} (h:(replayP p xs).code = 0):0 ≤ (replayP p xs).epoch ∧ (replayP p xs).epoch ≤ 300:=by
 obtain ⟨_,_,_,t,h1,h2⟩:=replay_len h
 rw [h2]
 exact runR_ep h1 ⟨Int.le_refl _,by show (0:Int) ≤ 300; omega⟩
theorem jobs_no {b:Boss} {ts:List Task} {st:Story} {n:Nat} {j:Job} (hj:b.jobs[n]? = some j) (h:¬ jobOk b ts n j):¬ UpOk b ts st:=fun q=>h (q.jobs n j (List.getElem?_eq_some_iff.1 hj).1 hj)
theorem jobs_step {b:Boss} {ts:List Task} {n:Nat} {j:Job} (hc:jobsTo b ts n) (hj:b.jobs[n]? = some j) (h:jobOk b ts n j):jobsTo b ts (n + 1):=fun m k hm hk=>by
 by_cases e:m = n
 ·subst e; rw [hj] at hk; cases hk; exact h
 ·exact hc m k (by omega) hk
theorem at_get {rs:List ByteArray} {n:Nat} {y:ByteArray} (h:rs[n]? = some y):atS rs (n:Int) = y:=by unfold atS; rw [Int.toNat_natCast,h]; rfl
theorem at_get' {rs:List ByteArray} {k:Int} {y:ByteArray} (h:rs[k.toNat]? = some y):atS rs k = y:=by unfold atS; rw [h]; rfl
theorem deps_get {ts:List Task} {n:Nat} {t:Task} (h:ts[n]? = some t):depsOf ts n = t.deps:=by unfold depsOf; rw [h]; rfl
def keysN (b:Boss) (n:Nat):List Value:=(((b.jobs.take n).map Job.lease).filter (fun l=>decide (¬ l = 0))).map fun l=>Value.int .i64 l
theorem keysN_mem {b:Boss} {n:Nat} {l:Int} (h:¬ l = 0):Value.int .i64 l ∈ keysN b n ↔ l ∈ (b.jobs.take n).map Job.lease:=by
 simp [keysN,h]
theorem keysN_kin (b:Boss) (n:Nat) (l0:Int):∀ x ∈ keysN b n,kin (.int .i64 l0) x:=by
 intro x hx
 obtain ⟨l,_,rfl⟩:=List.mem_map.1 hx
 rfl
theorem keysN_same {b:Boss} {n:Nat} {j:Job} (h:b.jobs[n]? = some j) (h0:j.lease = 0):keysN b (n + 1) = keysN b n:=by
 unfold keysN; rw [List.take_add_one,h]; simp [h0]
theorem keysN_step {b:Boss} {n:Nat} {j:Job} (h:b.jobs[n]? = some j) (h0:¬ j.lease = 0):keysN b n ++ [Value.int .i64 j.lease] = keysN b (n + 1):=by
 unfold keysN; rw [List.take_add_one,h]; simp [h0]
theorem seats_no {b:Boss} {ts:List Task} {st:Story} {n:Nat} {s:Seat} (hs:b.seats[n]? = some s) (h:¬ (0 ≤ s.epoch ∧ s.epoch ≤ 300)):¬ UpOk b ts st:=fun q=>h (q.seats s (List.mem_of_getElem? hs))
theorem owed_no {b:Boss} {ts:List Task} {st:Story} {n:Nat} {o:Owed} (hs:b.owed[n]? = some o) (h:¬ OwedOk b ts o):¬ UpOk b ts st:=fun q=>h (q.owed o (List.mem_of_getElem? hs))
theorem mem_step {α:Type} {p:α → Prop} {xs:List α} {n:Nat} {x:α} (hc:∀ y ∈ xs.take n,p y) (h:xs[n]? = some x) (hp:p x):∀ y ∈ xs.take (n + 1),p y:=by
 intro y hy
 rw [List.take_add_one,h] at hy
 rcases List.mem_append.1 hy with hy | hy
 ·exact hc y hy
 ·rw [Option.toList,List.mem_singleton] at hy; subst hy; exact hp
theorem c_impl_Boss_entries (b:Boss) (h1:b.log.safe.length ≤ 1048576) (h2:b.log.loose.length ≤ 1048576):F n_impl_Boss_entries [.val (bossR b)] (.own [false] ((b.log.safe ++ b.log.loose).map strT)) [[]]:=by
 refine i_impl_Boss_entries ?_
 conv=>whnf
 refine g 0 1 [] ?_
 conv=>whnf
 refine ⟨⟨⟨I,I,I,I,I,I,I,I,I,I,I,I,I⟩,I,I⟩,?_⟩
 refine gd 3 11 [[],[],[],[.call (V.own [false] (List.map strT (Log.safe (Boss.log b)))) ([[]])],[],[],[],[],[]] ?_
 conv=>whnf
 refine ⟨⟨I,I,I,⟨⟨I,I⟩,I,⟨⟨I,I⟩,I⟩,⟨I,I⟩,Go.K.c_impl_clone _ (by omega)⟩,I,I,I,⟨I,I,(by simp only [lens]; omega)⟩,I,I⟩,by kernel_rfl,?_⟩
 refine W.ret ?_
 refine EndsW.rt ?_
 conv=>whnf
 refine ⟨⟨I,I,I⟩,?_,rfl⟩
 rw [List.map_append]; rfl
theorem c_spec_l4All (l:Log) (h1:l.safe.length ≤ 1048576) (h2:l.loose.length ≤ 1048576):F n_spec_l4All [.val (logR l)] (.own [false] ((l.safe ++ l.loose).map strT)) [[]]:=by
 refine i_spec_l4All ?_
 conv=>whnf
 refine g 0 1 [] ?_
 conv=>whnf
 refine ⟨⟨⟨I,I,I⟩,I,I⟩,?_⟩
 refine gd 3 10 [[],[],[],[],[],[],[],[]] ?_
 conv=>whnf
 refine ⟨⟨I,I,I,⟨I,I,(by simp only [lens]; omega)⟩,I,I,⟨I,I,(by simp only [lens]; omega)⟩,I,I⟩,by kernel_rfl,?_⟩
 refine W.ret ?_
 refine EndsW.rt ?_
 conv=>whnf
 refine ⟨⟨I,I,I⟩,?_,rfl⟩
 rw [List.map_append]; rfl
end Go.K
end
section
set_option linter.unusedVariables false
set_option linter.unusedSimpArgs false
set_option maxHeartbeats 8000000
set_option maxRecDepth 20000
open Go Go.Tm Go.Proofs
namespace Go.K
theorem c_impl_ValidBoss (b:Boss) (p:Plan) (hp:planWf p) (hl1:b.log.safe.length ≤ 1048576) (hl2:b.log.loose.length ≤ 1048576) (hs:∀ s ∈ b.log.safe ++ b.log.loose,s.size ≤ 281474976710656) (hr:b.results.length ≤ 1048576) (hj:b.jobs.length ≤ 1048576) (hse:b.seats.length ≤ 1048576) (ho:b.owed.length ≤ 1048576):F n_impl_ValidBoss [.val (bossR b),.val (planR p)] (.b (decide (BossOk b p))) [[],[]]:=by
 have cp:=c_impl_CheckPlan p hp
 have ce:=c_impl_Boss_entries b hl1 hl2
 have cr:F n_impl_Replay [.val (planR p),.val (.t (strs (b.log.safe ++ b.log.loose)))] (storyO (bossS b p)) [[],[]]:=c_impl_Replay p (b.log.safe ++ b.log.loose) hp hs (by rw [List.length_append]; omega)
 by_cases hup:b.up = true
 rotate_left
 ·rw [Bool.not_eq_true] at hup
  refine i_impl_ValidBoss ?_
  conv=>whnf
  refine g 0 2 [] ?_
  conv=>whnf
  refine ⟨⟨⟨I,I,I,I,I,I,I,I,I,I,I,I,I⟩,⟨I,I⟩,I,I⟩,?_⟩
  refine W.sq ?_
  by_cases h1:checkPlan (Plan.tasks p) = (0:Int)
  by_cases h2:(1:Int) ≤ Boss.workers b ∧ Boss.workers b ≤ (8:Int)
  refine g 17 19 [.call (V.i (checkPlan (Plan.tasks p))) ([[]]),.b (false),.b (false),.b (false),.call (V.b (decide ((1:Int) ≤ Boss.workers b ∧ Boss.workers b ≤ (8:Int)))) ([[],[],[]]),.b (false),.b (false),.b (false),.b (false),.b (false),.call (V.b (decide ((0:Int) ≤ Boss.now b ∧ Boss.now b ≤ (1000000:Int)))) ([[],[],[]]),.b (false),.b (false)] ?_
  conv=>whnf
  refine ⟨⟨I,⟨⟨I,I⟩,I,⟨⟨I,I⟩,I⟩,⟨I,I⟩,(by assumption)⟩,I,I,⟨notF (by omega),I⟩,⟨notF (by omega),I⟩,⟨notF (by omega),⟨I,I,I,I⟩,I,⟨⟨I,I⟩,⟨I,I⟩,⟨I,I⟩,I⟩,⟨I,I⟩,Go.K.c_impl_within _ _ _⟩,⟨notF (by omega),I⟩,notF (by omega),I,⟨notF (by omega),I⟩,⟨notF (by omega),I⟩,⟨notF (by omega),⟨I,I,I,I⟩,I,⟨⟨I,I⟩,⟨I,I⟩,⟨I,I⟩,I⟩,⟨I,I⟩,Go.K.c_impl_within _ _ _⟩,⟨notF (by omega),I⟩,notF (by omega),I⟩,?_⟩
  refine W.cn ?_
  conv=>whnf
  refine ⟨fun h3=>?_,fun h3=>?_⟩
  replace h3:=ndt h3
  refine g 29 31 [] ?_
  conv=>whnf
  refine ⟨⟨I,I⟩,?_⟩
  refine W.ret ?_
  refine EndsW.rt ?_
  conv=>whnf
  refine ⟨⟨I,I,I⟩,?_,rfl⟩
  rotate_left 1
  replace h3:=ndf h3
  refine W.skip ?_
  refine gd 29 32 [[],[],[.call (V.own [false] (List.map strT (Log.safe (Boss.log b) ++ Log.loose (Boss.log b)))) ([[]])],[.call (storyO (bossS b p)) ([[],[]])],[],[]] ?_
  conv=>whnf
  refine ⟨⟨I,I,⟨⟨I,I⟩,I,⟨⟨I,I,I,I,I,I,I,I,I,I,I,I,I⟩,I⟩,⟨I,I⟩,(by assumption)⟩,⟨⟨I,I,I⟩,I,⟨⟨I,I⟩,⟨I,I⟩,I⟩,⟨I,I⟩,(by assumption)⟩,I,⟨I,I,I,I⟩,I⟩,by kernel_rfl,?_⟩
  refine W.sq ?_
  refine g 33 37 [] ?_
  conv=>whnf
  refine ⟨⟨I,I,I,I⟩,?_⟩
  refine W.cn ?_
  conv=>whnf
  refine ⟨fun h4=>?_,fun h4=>?_⟩
  replace h4:=ndt h4
  refine g 21 22 [] ?_
  conv=>whnf
  refine ⟨⟨I,I⟩,?_⟩
  refine W.ret ?_
  refine EndsW.rt ?_
  conv=>whnf
  refine ⟨⟨I,I,I⟩,?_,rfl⟩
  rotate_left 1
  replace h4:=ndf h4
  refine W.skip ?_
  refine W.sq ?_
  refine g 21 22 [] ?_
  conv=>whnf
  refine ⟨⟨I,I,I,I⟩,?_⟩
  refine W.cn ?_
  conv=>whnf
  refine ⟨fun _=>?_,noF (nbT (by assumption))⟩
  by_cases h5:(↑(List.length (List.map strT (Log.loose (Boss.log b)))):Int) = (0:Int)
  simp only [List.length_map] at h5
  by_cases h6:Boss.since b = (0:Int)
  by_cases h7:Boss.epoch b = (0:Int)
  by_cases h8:Boss.given b = (0:Int)
  by_cases h9:(↑(List.length (List.map strT (Boss.results b))):Int) = (0:Int)
  simp only [List.length_map] at h9
  by_cases h10:(↑(List.length (List.map jobT (Boss.jobs b))):Int) = (0:Int)
  simp only [List.length_map] at h10
  by_cases h11:(↑(List.length (List.map seatT (Boss.seats b))):Int) = (0:Int)
  simp only [List.length_map] at h11
  refine g 32 85 [.b (true),.b (true),.b (true),.b (true),.b (true),.b (true),.b (true),.b (true),.b (true),.b (true),.b (true),.b (true),.b (true),.b (true),.b (true),.b (true),.b (true),.b (true),.b (true),.b (true),.b (true),.b (true),.b (true),.b (true),.b (true),.b (true),.b (true),.b (true),.b (true),.b (true),.b (true),.b (true)] ?_
  conv=>whnf
  refine ⟨⟨I,I,I,I,I,I,⟨(by simp [*]),I⟩,⟨(by simp [*]),I⟩,⟨(by simp [*]),I⟩,(by simp [*]),I,⟨dT (by omega),I⟩,⟨dT (by omega),I⟩,⟨dT (by omega),I⟩,dT (by omega),I,⟨dT (by omega),I⟩,⟨dT (by omega),I⟩,⟨dT (by omega),I⟩,dT (by omega),I,⟨dT (by omega),I⟩,⟨dT (by omega),I⟩,⟨dT (by omega),I⟩,⟨dT (by omega),I⟩,dT (by omega),I,⟨(by simp [*]),I⟩,⟨(by simp [*]),I⟩,⟨(by simp [*]),I⟩,⟨(by simp [*]),I⟩,(by simp [*]),I,⟨(by simp [*]),I⟩,⟨(by simp [*]),I⟩,⟨(by simp [*]),I⟩,⟨(by simp [*]),I⟩,(by simp [*]),I,⟨(by simp [*]),I⟩,⟨(by simp [*]),I⟩,⟨(by simp [*]),I⟩,⟨(by simp [*]),I⟩,(by simp [*]),I,I⟩,?_⟩
  refine W.ret ?_
  refine EndsW.rt ?_
  conv=>whnf
  refine ⟨⟨I,I,I⟩,?_,rfl⟩
  rotate_left 1
  simp only [List.length_map] at h11
  refine g 32 85 [.b (true),.b (true),.b (true),.b (true),.b (true),.b (true),.b (true),.b (true),.b (true),.b (true),.b (true),.b (true),.b (true),.b (true),.b (true),.b (true),.b (true),.b (true),.b (true),.b (true),.b (true),.b (true),.b (true),.b (true),.b (true),.b (true),.b (true),.b (false),.b (false),.b (false),.b (false),.b (false)] ?_
  conv=>whnf
  refine ⟨⟨I,I,I,I,I,I,⟨(by simp [*]),I⟩,⟨(by simp [*]),I⟩,⟨(by simp [*]),I⟩,(by simp [*]),I,⟨dT (by omega),I⟩,⟨dT (by omega),I⟩,⟨dT (by omega),I⟩,dT (by omega),I,⟨dT (by omega),I⟩,⟨dT (by omega),I⟩,⟨dT (by omega),I⟩,dT (by omega),I,⟨dT (by omega),I⟩,⟨dT (by omega),I⟩,⟨dT (by omega),I⟩,⟨dT (by omega),I⟩,dT (by omega),I,⟨(by simp [*]),I⟩,⟨(by simp [*]),I⟩,⟨(by simp [*]),I⟩,⟨(by simp [*]),I⟩,(by simp [*]),I,⟨(by simp [*]),I⟩,⟨(by simp [*]),I⟩,⟨(by simp [*]),I⟩,⟨(by simp [*]),I⟩,(by simp [*]),I,(by simp_all),(by simp_all),(by simp_all),(by simp_all),(by simp_all),I,I⟩,?_⟩
  refine W.ret ?_
  refine EndsW.rt ?_
  conv=>whnf
  refine ⟨⟨I,I,I⟩,?_,rfl⟩
  rotate_left 1
  simp only [List.length_map] at h10
  refine g 32 85 [.b (true),.b (true),.b (true),.b (true),.b (true),.b (true),.b (true),.b (true),.b (true),.b (true),.b (true),.b (true),.b (true),.b (true),.b (true),.b (true),.b (true),.b (true),.b (true),.b (true),.b (true),.b (true),.b (false),.b (false),.b (false),.b (false),.b (false),.b (false),.b (false),.b (false),.b (false),.b (false)] ?_
  conv=>whnf
  refine ⟨⟨I,I,I,I,I,I,⟨(by simp [*]),I⟩,⟨(by simp [*]),I⟩,⟨(by simp [*]),I⟩,(by simp [*]),I,⟨dT (by omega),I⟩,⟨dT (by omega),I⟩,⟨dT (by omega),I⟩,dT (by omega),I,⟨dT (by omega),I⟩,⟨dT (by omega),I⟩,⟨dT (by omega),I⟩,dT (by omega),I,⟨dT (by omega),I⟩,⟨dT (by omega),I⟩,⟨dT (by omega),I⟩,⟨dT (by omega),I⟩,dT (by omega),I,⟨(by simp [*]),I⟩,⟨(by simp [*]),I⟩,⟨(by simp [*]),I⟩,⟨(by simp [*]),I⟩,(by simp [*]),I,(by simp_all),(by simp_all),(by simp_all),(by simp_all),(by simp_all),I,rfl,rfl,rfl,rfl,rfl,I,I⟩,?_⟩
  refine W.ret ?_
  refine EndsW.rt ?_
  conv=>whnf
  refine ⟨⟨I,I,I⟩,?_,rfl⟩
  rotate_left 1
  simp only [List.length_map] at h9
  refine g 32 85 [.b (true),.b (true),.b (true),.b (true),.b (true),.b (true),.b (true),.b (true),.b (true),.b (true),.b (true),.b (true),.b (true),.b (true),.b (true),.b (true),.b (true),.b (false),.b (false),.b (false),.b (false),.b (false),.b (false),.b (false),.b (false),.b (false),.b (false),.b (false),.b (false),.b (false),.b (false),.b (false)] ?_
  conv=>whnf
  refine ⟨⟨I,I,I,I,I,I,⟨(by simp [*]),I⟩,⟨(by simp [*]),I⟩,⟨(by simp [*]),I⟩,(by simp [*]),I,⟨dT (by omega),I⟩,⟨dT (by omega),I⟩,⟨dT (by omega),I⟩,dT (by omega),I,⟨dT (by omega),I⟩,⟨dT (by omega),I⟩,⟨dT (by omega),I⟩,dT (by omega),I,⟨dT (by omega),I⟩,⟨dT (by omega),I⟩,⟨dT (by omega),I⟩,⟨dT (by omega),I⟩,dT (by omega),I,(by simp_all),(by simp_all),(by simp_all),(by simp_all),(by simp_all),I,rfl,rfl,rfl,rfl,rfl,I,rfl,rfl,rfl,rfl,rfl,I,I⟩,?_⟩
  refine W.ret ?_
  refine EndsW.rt ?_
  conv=>whnf
  refine ⟨⟨I,I,I⟩,?_,rfl⟩
  rotate_left 1
  refine g 32 85 [.b (true),.b (true),.b (true),.b (true),.b (true),.b (true),.b (true),.b (true),.b (true),.b (true),.b (true),.b (true),.b (false),.b (false),.b (false),.b (false),.b (false),.b (false),.b (false),.b (false),.b (false),.b (false),.b (false),.b (false),.b (false),.b (false),.b (false),.b (false),.b (false),.b (false),.b (false),.b (false)] ?_
  conv=>whnf
  refine ⟨⟨I,I,I,I,I,I,⟨(by simp [*]),I⟩,⟨(by simp [*]),I⟩,⟨(by simp [*]),I⟩,(by simp [*]),I,⟨dT (by omega),I⟩,⟨dT (by omega),I⟩,⟨dT (by omega),I⟩,dT (by omega),I,⟨dT (by omega),I⟩,⟨dT (by omega),I⟩,⟨dT (by omega),I⟩,dT (by omega),I,dF (by omega),dF (by omega),dF (by omega),dF (by omega),dF (by omega),I,rfl,rfl,rfl,rfl,rfl,I,rfl,rfl,rfl,rfl,rfl,I,rfl,rfl,rfl,rfl,rfl,I,I⟩,?_⟩
  refine W.ret ?_
  refine EndsW.rt ?_
  conv=>whnf
  refine ⟨⟨I,I,I⟩,?_,rfl⟩
  rotate_left 1
  refine g 32 85 [.b (true),.b (true),.b (true),.b (true),.b (true),.b (true),.b (true),.b (true),.b (false),.b (false),.b (false),.b (false),.b (false),.b (false),.b (false),.b (false),.b (false),.b (false),.b (false),.b (false),.b (false),.b (false),.b (false),.b (false),.b (false),.b (false),.b (false),.b (false),.b (false),.b (false),.b (false),.b (false)] ?_
  conv=>whnf
  refine ⟨⟨I,I,I,I,I,I,⟨(by simp [*]),I⟩,⟨(by simp [*]),I⟩,⟨(by simp [*]),I⟩,(by simp [*]),I,⟨dT (by omega),I⟩,⟨dT (by omega),I⟩,⟨dT (by omega),I⟩,dT (by omega),I,dF (by omega),dF (by omega),dF (by omega),dF (by omega),I,rfl,rfl,rfl,rfl,rfl,I,rfl,rfl,rfl,rfl,rfl,I,rfl,rfl,rfl,rfl,rfl,I,rfl,rfl,rfl,rfl,rfl,I,I⟩,?_⟩
  refine W.ret ?_
  refine EndsW.rt ?_
  conv=>whnf
  refine ⟨⟨I,I,I⟩,?_,rfl⟩
  rotate_left 1
  refine g 32 85 [.b (true),.b (true),.b (true),.b (true),.b (false),.b (false),.b (false),.b (false),.b (false),.b (false),.b (false),.b (false),.b (false),.b (false),.b (false),.b (false),.b (false),.b (false),.b (false),.b (false),.b (false),.b (false),.b (false),.b (false),.b (false),.b (false),.b (false),.b (false),.b (false),.b (false),.b (false),.b (false)] ?_
  conv=>whnf
  refine ⟨⟨I,I,I,I,I,I,⟨(by simp [*]),I⟩,⟨(by simp [*]),I⟩,⟨(by simp [*]),I⟩,(by simp [*]),I,dF (by omega),dF (by omega),dF (by omega),dF (by omega),I,rfl,rfl,rfl,rfl,I,rfl,rfl,rfl,rfl,rfl,I,rfl,rfl,rfl,rfl,rfl,I,rfl,rfl,rfl,rfl,rfl,I,rfl,rfl,rfl,rfl,rfl,I,I⟩,?_⟩
  refine W.ret ?_
  refine EndsW.rt ?_
  conv=>whnf
  refine ⟨⟨I,I,I⟩,?_,rfl⟩
  rotate_left 1
  simp only [List.length_map] at h5
  refine g 32 85 [.b (false),.b (false),.b (false),.b (false),.b (false),.b (false),.b (false),.b (false),.b (false),.b (false),.b (false),.b (false),.b (false),.b (false),.b (false),.b (false),.b (false),.b (false),.b (false),.b (false),.b (false),.b (false),.b (false),.b (false),.b (false),.b (false),.b (false),.b (false),.b (false),.b (false),.b (false),.b (false)] ?_
  conv=>whnf
  refine ⟨⟨I,I,I,I,I,I,(by simp_all),(by simp_all),(by simp_all),(by simp_all),I,rfl,rfl,rfl,rfl,I,rfl,rfl,rfl,rfl,I,rfl,rfl,rfl,rfl,rfl,I,rfl,rfl,rfl,rfl,rfl,I,rfl,rfl,rfl,rfl,rfl,I,rfl,rfl,rfl,rfl,rfl,I,I⟩,?_⟩
  refine W.ret ?_
  refine EndsW.rt ?_
  conv=>whnf
  refine ⟨⟨I,I,I⟩,?_,rfl⟩
  rotate_left 1
  refine g 17 19 [.call (V.i (checkPlan (Plan.tasks p))) ([[]]),.b (false),.b (false),.b (false),.call (V.b (decide ((1:Int) ≤ Boss.workers b ∧ Boss.workers b ≤ (8:Int)))) ([[],[],[]]),.b (false),.b (false),.b (true),.b (true),.b (true),.b (true),.b (true)] ?_
  conv=>whnf
  refine ⟨⟨I,⟨⟨I,I⟩,I,⟨⟨I,I⟩,I⟩,⟨I,I⟩,(by assumption)⟩,I,I,⟨notF (by omega),I⟩,⟨notF (by omega),I⟩,⟨notF (by omega),⟨I,I,I,I⟩,I,⟨⟨I,I⟩,⟨I,I⟩,⟨I,I⟩,I⟩,⟨I,I⟩,Go.K.c_impl_within _ _ _⟩,⟨notF (by omega),I⟩,notF (by omega),I,notT (by omega),notT (by omega),notT (by omega),notT (by omega),notT (by omega),I⟩,?_⟩
  refine W.cn ?_
  conv=>whnf
  refine ⟨fun _=>?_,noF (rfl)⟩
  refine g 29 31 [] ?_
  conv=>whnf
  refine ⟨⟨I,I⟩,?_⟩
  refine W.ret ?_
  refine EndsW.rt ?_
  conv=>whnf
  refine ⟨⟨I,I,I⟩,?_,rfl⟩
  rotate_left 1
  refine g 17 19 [.call (V.i (checkPlan (Plan.tasks p))) ([[]]),.b (true),.b (true),.b (true),.b (true),.b (true),.b (true),.b (true),.b (true),.b (true),.b (true)] ?_
  conv=>whnf
  refine ⟨⟨I,⟨⟨I,I⟩,I,⟨⟨I,I⟩,I⟩,⟨I,I⟩,(by assumption)⟩,I,I,notT (by omega),notT (by omega),notT (by omega),notT (by omega),notT (by omega),I,rfl,rfl,rfl,rfl,rfl,I⟩,?_⟩
  refine W.cn ?_
  conv=>whnf
  refine ⟨fun _=>?_,noF (rfl)⟩
  refine g 29 31 [] ?_
  conv=>whnf
  refine ⟨⟨I,I⟩,?_⟩
  refine W.ret ?_
  refine EndsW.rt ?_
  conv=>whnf
  refine ⟨⟨I,I,I⟩,?_,rfl⟩
  rotate_left 1
  all_goals first
   | exact vbf (fun q=>by have e1:=q.plan; have e2:=q.workers; have e3:=q.now; have e4:=q.code; omega)
   | exact vbf (no_down hup fun q=>by have e1:=q.loose; have e2:=q.since; have e3:=q.epoch; have e4:=q.given; have e5:=q.res; have e6:=q.jobs; have e7:=q.seats; omega)
   | (rename_i h8
      simp only [List.length_map]
      by_cases h9:(b.owed.length:Int) = 0
      ·rw [decide_eq_true h9]; exact vbt ⟨by omega,by omega,by omega,by omega,(fun q=>by rw [hup] at q; cases q),fun _=>⟨by omega,by omega,by omega,by omega,by omega,by omega,by omega,by omega⟩⟩
      ·rw [decide_eq_false h9]; exact vbf (no_down hup fun q=>by have e8:=q.owed; omega))
   | skip
 refine i_impl_ValidBoss ?_
 conv=>whnf
 refine g 0 2 [] ?_
 conv=>whnf
 refine ⟨⟨⟨I,I,I,I,I,I,I,I,I,I,I,I,I⟩,⟨I,I⟩,I,I⟩,?_⟩
 refine W.sq ?_
 by_cases h1:checkPlan (Plan.tasks p) = (0:Int)
 by_cases h2:(1:Int) ≤ Boss.workers b ∧ Boss.workers b ≤ (8:Int)
 refine g 17 19 [.call (V.i (checkPlan (Plan.tasks p))) ([[]]),.b (false),.b (false),.b (false),.call (V.b (decide ((1:Int) ≤ Boss.workers b ∧ Boss.workers b ≤ (8:Int)))) ([[],[],[]]),.b (false),.b (false),.b (false),.b (false),.b (false),.call (V.b (decide ((0:Int) ≤ Boss.now b ∧ Boss.now b ≤ (1000000:Int)))) ([[],[],[]]),.b (false),.b (false)] ?_
 conv=>whnf
 refine ⟨⟨I,⟨⟨I,I⟩,I,⟨⟨I,I⟩,I⟩,⟨I,I⟩,(by assumption)⟩,I,I,⟨notF (by omega),I⟩,⟨notF (by omega),I⟩,⟨notF (by omega),⟨I,I,I,I⟩,I,⟨⟨I,I⟩,⟨I,I⟩,⟨I,I⟩,I⟩,⟨I,I⟩,Go.K.c_impl_within _ _ _⟩,⟨notF (by omega),I⟩,notF (by omega),I,⟨notF (by omega),I⟩,⟨notF (by omega),I⟩,⟨notF (by omega),⟨I,I,I,I⟩,I,⟨⟨I,I⟩,⟨I,I⟩,⟨I,I⟩,I⟩,⟨I,I⟩,Go.K.c_impl_within _ _ _⟩,⟨notF (by omega),I⟩,notF (by omega),I⟩,?_⟩
 refine W.cn ?_
 conv=>whnf
 refine ⟨fun h3=>?_,fun h3=>?_⟩
 replace h3:=ndt h3
 refine g 29 31 [] ?_
 conv=>whnf
 refine ⟨⟨I,I⟩,?_⟩
 refine W.ret ?_
 refine EndsW.rt ?_
 conv=>whnf
 refine ⟨⟨I,I,I⟩,?_,rfl⟩
 rotate_left 1
 replace h3:=ndf h3
 refine W.skip ?_
 refine gd 29 32 [[],[],[.call (V.own [false] (List.map strT (Log.safe (Boss.log b) ++ Log.loose (Boss.log b)))) ([[]])],[.call (storyO (bossS b p)) ([[],[]])],[],[]] ?_
 conv=>whnf
 refine ⟨⟨I,I,⟨⟨I,I⟩,I,⟨⟨I,I,I,I,I,I,I,I,I,I,I,I,I⟩,I⟩,⟨I,I⟩,(by assumption)⟩,⟨⟨I,I,I⟩,I,⟨⟨I,I⟩,⟨I,I⟩,I⟩,⟨I,I⟩,(by assumption)⟩,I,⟨I,I,I,I⟩,I⟩,by kernel_rfl,?_⟩
 refine W.sq ?_
 refine g 33 37 [] ?_
 conv=>whnf
 refine ⟨⟨I,I,I,I⟩,?_⟩
 refine W.cn ?_
 conv=>whnf
 refine ⟨fun h4=>?_,fun h4=>?_⟩
 replace h4:=ndt h4
 refine g 21 22 [] ?_
 conv=>whnf
 refine ⟨⟨I,I⟩,?_⟩
 refine W.ret ?_
 refine EndsW.rt ?_
 conv=>whnf
 refine ⟨⟨I,I,I⟩,?_,rfl⟩
 rotate_left 1
 replace h4:=ndf h4
 refine W.skip ?_
 refine W.sq ?_
 refine g 21 22 [] ?_
 conv=>whnf
 refine ⟨⟨I,I,I,I⟩,?_⟩
 refine W.cn ?_
 conv=>whnf
 refine ⟨noT (nbF (by assumption)),fun _=>?_⟩
 refine W.skip ?_
 refine W.sq ?_
 by_cases h5:Boss.epoch b = Story.epoch (bossS b p)
 by_cases h6:Boss.epoch b < (1:Int)
 refine g 25 120 [.b (false),.b (false),.b (false),.b (false),.b (true),.b (true),.b (true),.b (true),.b (true),.b (true),.b (true),.b (true),.b (true),.b (true),.b (true),.b (true),.b (true),.b (true),.b (true),.b (true),.b (true),.b (true),.b (true),.b (true),.b (true),.b (true),.b (true)] ?_
 conv=>whnf
 refine ⟨⟨I,I,I,I,I,I,⟨notF (by omega),I⟩,⟨notF (by omega),I⟩,⟨notF (by omega),I⟩,notF (by omega),I,dT (by omega),dT (by omega),dT (by omega),dT (by omega),dT (by omega),dT (by omega),dT (by omega),dT (by omega),I,rfl,rfl,rfl,rfl,rfl,rfl,rfl,rfl,I,rfl,rfl,rfl,rfl,rfl,rfl,rfl,I⟩,?_⟩
 refine W.cn ?_
 conv=>whnf
 refine ⟨fun _=>?_,noF (rfl)⟩
 refine g 19 21 [] ?_
 conv=>whnf
 refine ⟨⟨I,I⟩,?_⟩
 refine W.ret ?_
 refine EndsW.rt ?_
 conv=>whnf
 refine ⟨⟨I,I,I⟩,?_,rfl⟩
 rotate_left 1
 by_cases h7:(↑(List.length (List.map strT (Boss.results b))):Int) = (↑(List.length (List.map taskT (Plan.tasks p))):Int)
 simp only [List.length_map] at h7
 by_cases h8:(↑(List.length (List.map jobT (Boss.jobs b))):Int) = (↑(List.length (List.map taskT (Plan.tasks p))):Int)
 simp only [List.length_map] at h8
 refine g 25 120 [.b (false),.b (false),.b (false),.b (false),.b (false),.b (false),.b (false),.b (false),.b (false),.b (false),.b (false),.b (false),.b (false),.b (false),.b (false),.b (false),.b (false),.b (false),.b (false),.b (false),.b (false),.b (false),.b (false),.b (false),.b (false),.b (false),.b (false)] ?_
 conv=>whnf
 refine ⟨⟨I,I,I,I,I,I,⟨notF (by omega),I⟩,⟨notF (by omega),I⟩,⟨notF (by omega),I⟩,notF (by omega),I,⟨dF (by omega),I⟩,⟨dF (by omega),I⟩,⟨dF (by omega),I⟩,⟨dF (by omega),I⟩,⟨dF (by omega),I⟩,⟨dF (by omega),I⟩,⟨dF (by omega),I⟩,dF (by omega),I,⟨(by simp [*]),I⟩,⟨(by simp [*]),I⟩,⟨(by simp [*]),I⟩,⟨(by simp [*]),I⟩,⟨(by simp [*]),I⟩,⟨(by simp [*]),I⟩,⟨(by simp [*]),I⟩,(by simp [*]),I,⟨(by simp [*]),I⟩,⟨(by simp [*]),I⟩,⟨(by simp [*]),I⟩,⟨(by simp [*]),I⟩,⟨(by simp [*]),I⟩,⟨(by simp [*]),I⟩,(by simp [*]),I⟩,?_⟩
 refine W.cn ?_
 conv=>whnf
 refine ⟨fun h9=>?_,fun h9=>?_⟩
 replace h9:=ndt h9
 simp only [List.length_map] at h9
 refine g 19 21 [] ?_
 conv=>whnf
 refine ⟨⟨I,I⟩,?_⟩
 refine W.ret ?_
 refine EndsW.rt ?_
 conv=>whnf
 refine ⟨⟨I,I,I⟩,?_,rfl⟩
 rotate_left 1
 replace h9:=ndf h9
 simp only [List.length_map] at h9
 refine W.skip ?_
 refine W.sq ?_
 refine g 19 21 [] ?_
 conv=>whnf
 refine ⟨⟨I,I,I,I,I⟩,?_⟩
 refine W.blk ?_
 rotate_left 1
 simp only [List.length_map] at h8
 refine g 25 120 [.b (false),.b (false),.b (false),.b (false),.b (false),.b (false),.b (false),.b (false),.b (false),.b (false),.b (false),.b (false),.b (false),.b (false),.b (false),.b (false),.b (false),.b (false),.b (false),.b (false),.b (true),.b (true),.b (true),.b (true),.b (true),.b (true),.b (true)] ?_
 conv=>whnf
 refine ⟨⟨I,I,I,I,I,I,⟨notF (by omega),I⟩,⟨notF (by omega),I⟩,⟨notF (by omega),I⟩,notF (by omega),I,⟨dF (by omega),I⟩,⟨dF (by omega),I⟩,⟨dF (by omega),I⟩,⟨dF (by omega),I⟩,⟨dF (by omega),I⟩,⟨dF (by omega),I⟩,⟨dF (by omega),I⟩,dF (by omega),I,⟨(by simp [*]),I⟩,⟨(by simp [*]),I⟩,⟨(by simp [*]),I⟩,⟨(by simp [*]),I⟩,⟨(by simp [*]),I⟩,⟨(by simp [*]),I⟩,⟨(by simp [*]),I⟩,(by simp [*]),I,(by simp [*]),(by simp [*]),(by simp [*]),(by simp [*]),(by simp [*]),(by simp [*]),(by simp [*]),I⟩,?_⟩
 refine W.cn ?_
 conv=>whnf
 refine ⟨fun _=>?_,noF (rfl)⟩
 refine g 19 21 [] ?_
 conv=>whnf
 refine ⟨⟨I,I⟩,?_⟩
 refine W.ret ?_
 refine EndsW.rt ?_
 conv=>whnf
 refine ⟨⟨I,I,I⟩,?_,rfl⟩
 rotate_left 1
 simp only [List.length_map] at h7
 refine g 25 120 [.b (false),.b (false),.b (false),.b (false),.b (false),.b (false),.b (false),.b (false),.b (false),.b (false),.b (false),.b (false),.b (true),.b (true),.b (true),.b (true),.b (true),.b (true),.b (true),.b (true),.b (true),.b (true),.b (true),.b (true),.b (true),.b (true),.b (true)] ?_
 conv=>whnf
 refine ⟨⟨I,I,I,I,I,I,⟨notF (by omega),I⟩,⟨notF (by omega),I⟩,⟨notF (by omega),I⟩,notF (by omega),I,⟨dF (by omega),I⟩,⟨dF (by omega),I⟩,⟨dF (by omega),I⟩,⟨dF (by omega),I⟩,⟨dF (by omega),I⟩,⟨dF (by omega),I⟩,⟨dF (by omega),I⟩,dF (by omega),I,(by simp [*]),(by simp [*]),(by simp [*]),(by simp [*]),(by simp [*]),(by simp [*]),(by simp [*]),(by simp [*]),I,rfl,rfl,rfl,rfl,rfl,rfl,rfl,I⟩,?_⟩
 refine W.cn ?_
 conv=>whnf
 refine ⟨fun _=>?_,noF (rfl)⟩
 refine g 19 21 [] ?_
 conv=>whnf
 refine ⟨⟨I,I⟩,?_⟩
 refine W.ret ?_
 refine EndsW.rt ?_
 conv=>whnf
 refine ⟨⟨I,I,I⟩,?_,rfl⟩
 rotate_left 1
 refine g 25 120 [.b (true),.b (true),.b (true),.b (true),.b (true),.b (true),.b (true),.b (true),.b (true),.b (true),.b (true),.b (true),.b (true),.b (true),.b (true),.b (true),.b (true),.b (true),.b (true),.b (true),.b (true),.b (true),.b (true),.b (true),.b (true),.b (true),.b (true)] ?_
 conv=>whnf
 refine ⟨⟨I,I,I,I,I,I,notT (by omega),notT (by omega),notT (by omega),notT (by omega),I,rfl,rfl,rfl,rfl,rfl,rfl,rfl,rfl,I,rfl,rfl,rfl,rfl,rfl,rfl,rfl,rfl,I,rfl,rfl,rfl,rfl,rfl,rfl,rfl,I⟩,?_⟩
 refine W.cn ?_
 conv=>whnf
 refine ⟨fun _=>?_,noF (rfl)⟩
 refine g 19 21 [] ?_
 conv=>whnf
 refine ⟨⟨I,I⟩,?_⟩
 refine W.ret ?_
 refine EndsW.rt ?_
 conv=>whnf
 refine ⟨⟨I,I,I⟩,?_,rfl⟩
 rotate_left 1
 refine g 17 19 [.call (V.i (checkPlan (Plan.tasks p))) ([[]]),.b (false),.b (false),.b (false),.call (V.b (decide ((1:Int) ≤ Boss.workers b ∧ Boss.workers b ≤ (8:Int)))) ([[],[],[]]),.b (false),.b (false),.b (true),.b (true),.b (true),.b (true),.b (true)] ?_
 conv=>whnf
 refine ⟨⟨I,⟨⟨I,I⟩,I,⟨⟨I,I⟩,I⟩,⟨I,I⟩,(by assumption)⟩,I,I,⟨notF (by omega),I⟩,⟨notF (by omega),I⟩,⟨notF (by omega),⟨I,I,I,I⟩,I,⟨⟨I,I⟩,⟨I,I⟩,⟨I,I⟩,I⟩,⟨I,I⟩,Go.K.c_impl_within _ _ _⟩,⟨notF (by omega),I⟩,notF (by omega),I,notT (by omega),notT (by omega),notT (by omega),notT (by omega),notT (by omega),I⟩,?_⟩
 refine W.cn ?_
 conv=>whnf
 refine ⟨fun _=>?_,noF (rfl)⟩
 refine g 29 31 [] ?_
 conv=>whnf
 refine ⟨⟨I,I⟩,?_⟩
 refine W.ret ?_
 refine EndsW.rt ?_
 conv=>whnf
 refine ⟨⟨I,I,I⟩,?_,rfl⟩
 rotate_left 1
 refine g 17 19 [.call (V.i (checkPlan (Plan.tasks p))) ([[]]),.b (true),.b (true),.b (true),.b (true),.b (true),.b (true),.b (true),.b (true),.b (true),.b (true)] ?_
 conv=>whnf
 refine ⟨⟨I,⟨⟨I,I⟩,I,⟨⟨I,I⟩,I⟩,⟨I,I⟩,(by assumption)⟩,I,I,notT (by omega),notT (by omega),notT (by omega),notT (by omega),notT (by omega),I,rfl,rfl,rfl,rfl,rfl,I⟩,?_⟩
 refine W.cn ?_
 conv=>whnf
 refine ⟨fun _=>?_,noF (rfl)⟩
 refine g 29 31 [] ?_
 conv=>whnf
 refine ⟨⟨I,I⟩,?_⟩
 refine W.ret ?_
 refine EndsW.rt ?_
 conv=>whnf
 refine ⟨⟨I,I,I⟩,?_,rfl⟩
 rotate_left 1
 all_goals try first
  | exact vbf (fun q=>by have e1:=q.plan; have e2:=q.workers; have e3:=q.now; have e4:=q.code; omega)
  | exact vbf (no_up hup fun q=>by have e1:=q.epoch; have e2:=q.pos; have e3:=q.rlen; have e4:=q.jlen; have e5:=q.slen; omega)
 have hk:(bossS b p).code = 0:=by assumption
 have hc0:checkPlan p.tasks = 0:=by assumption
 obtain ⟨_,_,hsl,_⟩:=replay_len (p:=p) (xs:=b.log.safe ++ b.log.loose) hk
 obtain ⟨hep1,hep2⟩:=replay_ep (p:=p) (xs:=b.log.safe ++ b.log.loose) hk
 change (bossS b p).results.length = _ at hsl
 change 0 ≤ (bossS b p).epoch at hep1
 change (bossS b p).epoch ≤ 300 at hep2
 have f1:b.epoch = (bossS b p).epoch:=by assumption
 have f2:1 ≤ b.epoch:=by omega
 have f3:b.results.length = p.tasks.length:=by omega
 have f4:b.jobs.length = p.tasks.length:=by omega
 have f5:(b.seats.length:Int) = b.workers:=by omega
 have f6:1 ≤ b.workers ∧ b.workers ≤ 8:=by assumption
 have f7:0 ≤ b.now ∧ b.now ≤ 1000000:=by assumption
 have hpl:=(chk_inv hc0).1
 refine W.lp (fun s (n:Nat)=>⟨[(2,s.s 2),(3,s.s 3),(5,s.s 5),(16,s.s 16),(22,s.s 22),(24,s.s 24),(122,s.s 122),(123,s.s 123),(124,.i n)],[(2,[s.c 2 0,s.c 2 1,s.c 2 2,s.c 2 3,s.c 2 4,s.c 2 5,s.c 2 6,s.c 2 7,s.c 2 8,s.c 2 9,s.c 2 10,s.c 2 11]),(3,[s.c 3 0]),(5,[s.c 5 0,s.c 5 1,s.c 5 2])],[]⟩) (fun (n:Nat)=>n ≤ b.results.length ∧ b.results.take n = (bossS b p).results.take n) (fun (n:Nat)=>b.results.length - n) (0) [some 2,some 3,some 5] [] ⟨rfl,⟨rfl,rfl,rfl,⟨_,rfl,_,_,rfl,rfl,rfl⟩,rfl,rfl,rfl,rfl,rfl,I⟩,⟨⟨rfl,⟨rfl,⟨rfl,⟨rfl,⟨rfl,⟨rfl,⟨rfl,⟨rfl,⟨rfl,⟨rfl,⟨rfl,⟨rfl,⟨rfl,I⟩⟩⟩⟩⟩⟩⟩⟩⟩⟩⟩⟩⟩,⟨⟨rfl,⟨rfl,I⟩⟩,⟨⟨rfl,⟨rfl,⟨rfl,⟨rfl,I⟩⟩⟩⟩,I⟩⟩⟩,I⟩ (by simp) ?_
 rintro n ⟨hn,hc⟩
 conv=>whnf
 refine g 0 0 [] ?_
 conv=>whnf
 refine ⟨⟨I,I⟩,?_⟩
 refine W.sq ?_
 refine W.cn ?_
 conv=>whnf
 refine ⟨fun h10=>?_,fun h10=>?_⟩
 replace h10:=dt h10
 simp only [List.length_map] at h10
 refine W.skip ?_
 refine W.sq ?_
 refine W.blk ?_
 obtain ⟨y1,hy1⟩:=some_at (xs:=Boss.results b) (n:=n) (by omega)
 refine g 125 129 [.x (strT y1)] ?_
 conv=>whnf
 refine ⟨⟨I,⟨(by omega),ixl (by assumption)⟩,I,I,I,I⟩,?_⟩
 obtain ⟨y2,hy2⟩:=some_at (xs:=Story.results (bossS b p)) (n:=n) (by omega)
 refine g 129 135 [.n (n),.x (strT y2)] ?_
 conv=>whnf
 refine ⟨⟨I,I,I,⟨rfl,(by simp only [lens]; omega)⟩,ixl (by assumption),I,I,I⟩,?_⟩
 refine W.cn ?_
 conv=>whnf
 refine ⟨fun h11=>?_,fun h11=>?_⟩
 replace h11:=ndt h11
 refine g 7 8 [] ?_
 conv=>whnf
 refine ⟨⟨I,I⟩,?_⟩
 refine W.ret ?_
 refine EndsW.rt ?_
 conv=>whnf
 refine ⟨⟨I,I,I⟩,?_,rfl⟩
 rotate_left 1
 replace h11:=ndf h11
 refine W.skip ?_
 refine rg [.i ((↑n:Int) + (1:Int))] ?_
 conv=>whnf
 refine ⟨⟨w64 (by omega) (by omega),I,I⟩,?_⟩
 rotate_left 1
 replace h10:=df h10
 simp only [List.length_map] at h10
 refine W.exit ?_
 refine W.sq ?_
 by_cases h11:(0:Int) ≤ Boss.since b ∧ Boss.since b ≤ (1:Int)
 by_cases h12:(0:Int) ≤ Boss.given b ∧ Boss.given b ≤ (1000000:Int)
 refine g 122 152 [.call (V.b (decide ((0:Int) ≤ Boss.since b ∧ Boss.since b ≤ (1:Int)))) ([[],[],[]]),.b (false),.b (false),.b (false),.call (V.b (decide ((0:Int) ≤ Boss.given b ∧ Boss.given b ≤ (1000000:Int)))) ([[],[],[]]),.b (false),.b (false),.b (false),.b (false),.b (false),.b (false),.b (false)] ?_
 conv=>whnf
 refine ⟨⟨I,I,⟨⟨I,I,I,I⟩,I,⟨⟨I,I⟩,⟨I,I⟩,⟨I,I⟩,I⟩,⟨I,I⟩,Go.K.c_impl_within _ _ _⟩,I,I,⟨notF (by omega),I⟩,⟨notF (by omega),I⟩,⟨notF (by omega),⟨I,I,I,I⟩,I,⟨⟨I,I⟩,⟨I,I⟩,⟨I,I⟩,I⟩,⟨I,I⟩,Go.K.c_impl_within _ _ _⟩,⟨notF (by omega),I⟩,notF (by omega),I,⟨notF (by omega),I⟩,⟨notF (by omega),I⟩,⟨notF (by omega),I⟩,⟨notF (by omega),I⟩,notF (by omega),I⟩,?_⟩
 refine W.cn ?_
 conv=>whnf
 refine ⟨fun h13=>?_,fun h13=>?_⟩
 replace h13:=dt h13
 simp only [List.length_map] at h13
 refine g 5 6 [] ?_
 conv=>whnf
 refine ⟨⟨I,I⟩,?_⟩
 refine W.ret ?_
 refine EndsW.rt ?_
 conv=>whnf
 refine ⟨⟨I,I,I⟩,?_,rfl⟩
 rotate_left 1
 replace h13:=df h13
 simp only [List.length_map] at h13
 refine W.skip ?_
 refine g 152 154 [] ?_
 conv=>whnf
 refine ⟨⟨I,I,I⟩,?_⟩
 refine g 154 158 [.i (Boss.epoch b - (1:Int)),.i ((Boss.epoch b - (1:Int)) * (1000000:Int))] ?_
 conv=>whnf
 refine ⟨⟨I,I,w64 (by omega) (by omega),w64 (by omega) (by omega),I,I⟩,?_⟩
 refine W.sq ?_
 refine g 5 6 [] ?_
 conv=>whnf
 refine ⟨⟨I,I,I,I,I⟩,?_⟩
 refine W.blk ?_
 rotate_left 1
 refine g 122 152 [.call (V.b (decide ((0:Int) ≤ Boss.since b ∧ Boss.since b ≤ (1:Int)))) ([[],[],[]]),.b (false),.b (false),.b (false),.call (V.b (decide ((0:Int) ≤ Boss.given b ∧ Boss.given b ≤ (1000000:Int)))) ([[],[],[]]),.b (false),.b (false),.b (true),.b (true),.b (true),.b (true),.b (true)] ?_
 conv=>whnf
 refine ⟨⟨I,I,⟨⟨I,I,I,I⟩,I,⟨⟨I,I⟩,⟨I,I⟩,⟨I,I⟩,I⟩,⟨I,I⟩,Go.K.c_impl_within _ _ _⟩,I,I,⟨notF (by omega),I⟩,⟨notF (by omega),I⟩,⟨notF (by omega),⟨I,I,I,I⟩,I,⟨⟨I,I⟩,⟨I,I⟩,⟨I,I⟩,I⟩,⟨I,I⟩,Go.K.c_impl_within _ _ _⟩,⟨notF (by omega),I⟩,notF (by omega),I,notT (by omega),notT (by omega),notT (by omega),notT (by omega),notT (by omega),I⟩,?_⟩
 refine W.cn ?_
 conv=>whnf
 refine ⟨fun _=>?_,noF (rfl)⟩
 refine g 5 6 [] ?_
 conv=>whnf
 refine ⟨⟨I,I⟩,?_⟩
 refine W.ret ?_
 refine EndsW.rt ?_
 conv=>whnf
 refine ⟨⟨I,I,I⟩,?_,rfl⟩
 rotate_left 1
 refine g 122 152 [.call (V.b (decide ((0:Int) ≤ Boss.since b ∧ Boss.since b ≤ (1:Int)))) ([[],[],[]]),.b (true),.b (true),.b (true),.b (true),.b (true),.b (true),.b (true),.b (true),.b (true),.b (true)] ?_
 conv=>whnf
 refine ⟨⟨I,I,⟨⟨I,I,I,I⟩,I,⟨⟨I,I⟩,⟨I,I⟩,⟨I,I⟩,I⟩,⟨I,I⟩,Go.K.c_impl_within _ _ _⟩,I,I,notT (by omega),notT (by omega),notT (by omega),notT (by omega),notT (by omega),I,rfl,rfl,rfl,rfl,rfl,I⟩,?_⟩
 refine W.cn ?_
 conv=>whnf
 refine ⟨fun _=>?_,noF (rfl)⟩
 refine g 5 6 [] ?_
 conv=>whnf
 refine ⟨⟨I,I⟩,?_⟩
 refine W.ret ?_
 refine EndsW.rt ?_
 conv=>whnf
 refine ⟨⟨I,I,I⟩,?_,rfl⟩
 rotate_left 1
 all_goals try first
  | exact vbf (no_up hup fun q=>by have e1:=q.res; rw [e1] at hy1; rw [hy1] at hy2; cases hy2; contradiction)
  | exact vbf (no_up hup fun q=>by have e1:=q.since; have e2:=q.given; have e3:=q.olen; omega)
 ·refine ⟨n + 1,[some 2,some 3,some 5],[],⟨rfl,⟨rfl,rfl,rfl,⟨_,rfl,_,_,rfl,rfl,rfl⟩,rfl,rfl,rfl,rfl,rfl,I⟩,⟨⟨rfl,⟨rfl,⟨rfl,⟨rfl,⟨rfl,⟨rfl,⟨rfl,⟨rfl,⟨rfl,⟨rfl,⟨rfl,⟨rfl,⟨rfl,I⟩⟩⟩⟩⟩⟩⟩⟩⟩⟩⟩⟩⟩,⟨⟨rfl,⟨rfl,I⟩⟩,⟨⟨rfl,⟨rfl,⟨rfl,⟨rfl,I⟩⟩⟩⟩,I⟩⟩⟩,I⟩,?_,?_⟩
  rotate_left 1
  (dsimp only; omega)
  dsimp only
  exact ⟨by omega,take_eq hc hy1 (by rw [hy2]; simp_all)⟩
 have g1:b.results = (bossS b p).results:=by rw [take_all (by omega),take_all (by omega)] at hc; exact hc
 have g2:0 ≤ b.since ∧ b.since ≤ 1:=by omega
 have g3:0 ≤ b.given ∧ b.given ≤ 1000000:=by omega
 have g4:b.owed.length ≤ 2000:=by omega
 refine W.lp (fun s (n:Nat)=>⟨[(2,s.s 2),(3,s.s 3),(8,s.s 8),(9,s.s 9),(16,s.s 16),(22,s.s 22),(24,s.s 24),(159,s.s 159),(160,s.s 160),(161,.i n)],[(2,[s.c 2 0,s.c 2 1,s.c 2 2,s.c 2 3,s.c 2 4,s.c 2 5,s.c 2 6,s.c 2 7,s.c 2 8,s.c 2 9,s.c 2 10,s.c 2 11]),(3,[s.c 3 0])],[(153,keysN b n)]⟩) (fun (n:Nat)=>n ≤ b.jobs.length ∧ jobsTo b p.tasks n) (fun (n:Nat)=>b.jobs.length - n) (0) [some 2,some 3] [153] ⟨rfl,⟨rfl,rfl,rfl,rfl,⟨_,rfl,_,_,rfl,rfl,rfl⟩,rfl,rfl,rfl,rfl,rfl,I⟩,⟨⟨rfl,⟨rfl,⟨rfl,⟨rfl,⟨rfl,⟨rfl,⟨rfl,⟨rfl,⟨rfl,⟨rfl,⟨rfl,⟨rfl,⟨rfl,I⟩⟩⟩⟩⟩⟩⟩⟩⟩⟩⟩⟩⟩,⟨⟨rfl,⟨rfl,I⟩⟩,I⟩⟩,⟨rfl,I⟩⟩ ?_ ?_
 ·exact ⟨Nat.zero_le _,fun m j hm=>by omega⟩
 rintro n1 ⟨hn1,hc1⟩
 have hrl:b.results.length = p.tasks.length:=f3
 by_cases hj2:n1 < b.jobs.length
 ·obtain ⟨j,hj1⟩:=some_at hj2
  obtain ⟨y,hy0⟩:=some_at (xs:=b.results) (n:=n1) (by omega)
  obtain ⟨t,ht0⟩:=some_at (xs:=p.tasks) (n:=n1) (by omega)
  have hkin:=keysN_kin b n1 j.lease
  obtain ⟨_,_,a3,a4⟩:=chk_task hc0 ht0
  have crd:=c_impl_ready b.results t.deps (fun d hd=>by have:=a4 d hd; omega) (by omega)
  by_cases hz:j.lease = 0
  ·by_cases hz2:j.worker = 0 ∧ j.til = 0
   ·have hjo:jobOk b p.tasks n1 j:=⟨fun _=>hz2,fun e=>absurd hz e⟩
    obtain ⟨hz3,hz4⟩:=hz2
    conv=>whnf
    refine g 0 0 [] ?_
    conv=>whnf
    refine ⟨⟨I,I⟩,?_⟩
    refine W.sq ?_
    refine W.cn ?_
    conv=>whnf
    refine ⟨fun _=>?_,noF (by simp_all)⟩
    refine W.skip ?_
    refine W.sq ?_
    refine W.blk ?_
    refine g 162 166 [.x (jobT j)] ?_
    conv=>whnf
    refine ⟨⟨I,⟨(by omega),ixl (by assumption)⟩,I,I,I,⟨I,I,I,I⟩,I⟩,?_⟩
    refine W.sq ?_
    refine g 166 168 [] ?_
    conv=>whnf
    refine ⟨⟨I,I,I,I⟩,?_⟩
    refine W.cn ?_
    conv=>whnf
    refine ⟨fun _=>?_,noF (dT (by omega))⟩
    refine W.sq ?_
    refine g 168 171 [.b (true)] ?_
    conv=>whnf
    refine ⟨⟨I,I,by simp [*],I⟩,?_⟩
    refine W.cn ?_
    conv=>whnf
    refine ⟨noT (rfl),fun _=>?_⟩
    refine W.skip ?_
    refine W.exit ?_
    refine rg [.i ((↑n1:Int) + (1:Int))] ?_
    conv=>whnf
    refine ⟨⟨w64 (by omega) (by omega),I,I⟩,?_⟩
    refine ⟨n1 + 1,[some 2,some 3],[153],⟨rfl,⟨rfl,rfl,rfl,rfl,⟨_,rfl,_,_,rfl,rfl,rfl⟩,rfl,rfl,rfl,rfl,rfl,I⟩,⟨⟨rfl,⟨rfl,⟨rfl,⟨rfl,⟨rfl,⟨rfl,⟨rfl,⟨rfl,⟨rfl,⟨rfl,⟨rfl,⟨rfl,⟨rfl,I⟩⟩⟩⟩⟩⟩⟩⟩⟩⟩⟩⟩⟩,⟨⟨rfl,⟨rfl,I⟩⟩,I⟩⟩,⟨(congrArg some (keysN_same hj1 hz).symm),I⟩⟩,?_,?_⟩
    rotate_left 1
    (dsimp only; omega)
    dsimp only
    exact ⟨by omega,jobs_step hc1 hj1 hjo⟩
   ·conv=>whnf
    refine g 0 0 [] ?_
    conv=>whnf
    refine ⟨⟨I,I⟩,?_⟩
    refine W.sq ?_
    refine W.cn ?_
    conv=>whnf
    refine ⟨fun _=>?_,noF (by simp_all)⟩
    refine W.skip ?_
    refine W.sq ?_
    refine W.blk ?_
    refine g 162 166 [.x (jobT j)] ?_
    conv=>whnf
    refine ⟨⟨I,⟨(by omega),ixl (by assumption)⟩,I,I,I,⟨I,I,I,I⟩,I⟩,?_⟩
    refine W.sq ?_
    refine g 166 168 [] ?_
    conv=>whnf
    refine ⟨⟨I,I,I,I⟩,?_⟩
    refine W.cn ?_
    conv=>whnf
    refine ⟨fun _=>?_,noF (dT (by omega))⟩
    refine W.sq ?_
    refine g 168 171 [.b (false)] ?_
    conv=>whnf
    refine ⟨⟨I,I,by simp_all,I⟩,?_⟩
    refine W.cn ?_
    conv=>whnf
    refine ⟨fun _=>?_,noF (rfl)⟩
    refine g 171 172 [] ?_
    conv=>whnf
    refine ⟨⟨I,I⟩,?_⟩
    refine W.ret ?_
    refine EndsW.rt ?_
    conv=>whnf
    refine ⟨⟨I,I,I⟩,?_,rfl⟩
    all_goals exact vbf (no_up hup (jobs_no hj1 (fun q=>by have:=q.1 hz; omega)))
  ·by_cases hA:(b.epoch - 1) * 1000000 + 1 ≤ j.lease ∧ j.lease ≤ (b.epoch - 1) * 1000000 + b.given
   ·by_cases hB:j.lease ∈ (b.jobs.take n1).map Job.lease
    ·have hkm:Value.int IntKind.i64 j.lease ∈ keysN b n1:=(keysN_mem hz).2 hB
     conv=>whnf
     refine g 0 0 [] ?_
     conv=>whnf
     refine ⟨⟨I,I⟩,?_⟩
     refine W.sq ?_
     refine W.cn ?_
     conv=>whnf
     refine ⟨fun _=>?_,noF (by simp_all)⟩
     refine W.skip ?_
     refine W.sq ?_
     refine W.blk ?_
     refine g 162 166 [.x (jobT j)] ?_
     conv=>whnf
     refine ⟨⟨I,⟨(by omega),ixl (by assumption)⟩,I,I,I,⟨I,I,I,I⟩,I⟩,?_⟩
     refine W.sq ?_
     refine g 166 168 [] ?_
     conv=>whnf
     refine ⟨⟨I,I,I,I⟩,?_⟩
     refine W.cn ?_
     conv=>whnf
     refine ⟨noT (dF (by omega)),fun _=>?_⟩
     refine W.skip ?_
     refine W.sq ?_
     refine g 168 207 [.i ((Boss.epoch b - (1:Int)) * (1000000:Int) + (1:Int)),.i ((Boss.epoch b - (1:Int)) * (1000000:Int) + Boss.given b),.call (V.b (decide ((Boss.epoch b - (1:Int)) * (1000000:Int) + (1:Int) ≤ Job.lease j ∧ Job.lease j ≤ (Boss.epoch b - (1:Int)) * (1000000:Int) + Boss.given b))) ([[],[],[]]),.b (false),.b (false),.b (false),.b (false),.b (decide (Job.lease j ∈ List.map (fun l=>l) (List.filter (fun l=>decide ¬l = (0:Int)) (List.map Job.lease (List.take n1 (Boss.jobs b)))))),.b (false),.b (true),.b (true),.b (true),.b (true),.b (true),.b (true),.b (true),.b (true),.b (true),.b (true),.b (true),.b (true),.b (true),.b (true),.b (true),.b (true),.b (true),.b (true)] ?_
     conv=>whnf
     refine ⟨⟨I,I,I,w64 (by omega) (by omega),I,I,I,w64 (by omega) (by omega),⟨⟨I,I,I,I⟩,I,⟨⟨I,I⟩,⟨I,I⟩,⟨I,I⟩,I⟩,⟨I,I⟩,Go.K.c_impl_within _ _ _⟩,I,I,⟨notF (by omega),I⟩,⟨notF (by omega),I⟩,⟨notF (by omega),I⟩,⟨notF (by omega),mem_ints,kin_ints⟩,notF (by omega),I,(by simp_all),(by simp_all),(by simp_all),(by simp_all),(by simp_all),(by simp_all),(by simp_all),I,rfl,rfl,rfl,rfl,rfl,rfl,rfl,rfl,rfl,rfl,rfl,I⟩,?_⟩
     refine W.cn ?_
     conv=>whnf
     refine ⟨fun _=>?_,noF (rfl)⟩
     refine g 207 208 [] ?_
     conv=>whnf
     refine ⟨⟨I,I⟩,?_⟩
     refine W.ret ?_
     refine EndsW.rt ?_
     conv=>whnf
     refine ⟨⟨I,I,I⟩,?_,rfl⟩
     exact vbf (no_up hup (jobs_no hj1 (fun q=>(q.2 hz).once hB)))
    ·have hkm:¬ Value.int IntKind.i64 j.lease ∈ keysN b n1:=fun e=>hB ((keysN_mem hz).1 e)
     by_cases hC:1 ≤ j.worker ∧ j.worker ≤ b.workers
     ·by_cases hD:b.now + 1 ≤ j.til ∧ j.til ≤ b.now + 12
      ·by_cases hE:y = emp
       ·by_cases hF:readyB b.results t.deps
        ·rw [decide_eq_true hF] at crd
         conv=>whnf
         refine g 0 0 [] ?_
         conv=>whnf
         refine ⟨⟨I,I⟩,?_⟩
         refine W.sq ?_
         refine W.cn ?_
         conv=>whnf
         refine ⟨fun _=>?_,noF (by simp_all)⟩
         refine W.skip ?_
         refine W.sq ?_
         refine W.blk ?_
         refine g 162 166 [.x (jobT j)] ?_
         conv=>whnf
         refine ⟨⟨I,⟨(by omega),ixl (by assumption)⟩,I,I,I,⟨I,I,I,I⟩,I⟩,?_⟩
         refine W.sq ?_
         refine g 166 168 [] ?_
         conv=>whnf
         refine ⟨⟨I,I,I,I⟩,?_⟩
         refine W.cn ?_
         conv=>whnf
         refine ⟨noT (dF (by omega)),fun _=>?_⟩
         refine W.skip ?_
         refine W.sq ?_
         refine g 168 207 [.i ((Boss.epoch b - (1:Int)) * (1000000:Int) + (1:Int)),.i ((Boss.epoch b - (1:Int)) * (1000000:Int) + Boss.given b),.call (V.b (decide ((Boss.epoch b - (1:Int)) * (1000000:Int) + (1:Int) ≤ Job.lease j ∧ Job.lease j ≤ (Boss.epoch b - (1:Int)) * (1000000:Int) + Boss.given b))) ([[],[],[]]),.b (false),.b (false),.b (false),.b (false),.b (decide (Job.lease j ∈ List.map (fun l=>l) (List.filter (fun l=>decide ¬l = (0:Int)) (List.map Job.lease (List.take n1 (Boss.jobs b)))))),.b (false),.b (false),.b (false),.b (false),.b (false),.b (false),.call (V.b (decide ((1:Int) ≤ Job.worker j ∧ Job.worker j ≤ Boss.workers b))) ([[],[],[]]),.b (false),.b (false),.b (false),.b (false),.b (false),.b (false),.b (false),.i (Boss.now b + (1:Int)),.b (false),.b (false),.b (false),.i (Boss.now b + (12:Int)),.b (false),.call (V.b (decide (Boss.now b + (1:Int) ≤ Job.til j ∧ Job.til j ≤ Boss.now b + (12:Int)))) ([[],[],[]]),.b (false),.b (false)] ?_
         conv=>whnf
         refine ⟨⟨I,I,I,w64 (by omega) (by omega),I,I,I,w64 (by omega) (by omega),⟨⟨I,I,I,I⟩,I,⟨⟨I,I⟩,⟨I,I⟩,⟨I,I⟩,I⟩,⟨I,I⟩,Go.K.c_impl_within _ _ _⟩,I,I,⟨notF (by omega),I⟩,⟨notF (by omega),I⟩,⟨notF (by omega),I⟩,⟨notF (by omega),mem_ints,kin_ints⟩,notF (by omega),I,⟨(by simp_all),I⟩,⟨(by simp_all),I⟩,⟨(by simp_all),I⟩,⟨(by simp_all),I⟩,⟨(by simp_all),⟨I,I,I,I⟩,I,⟨⟨I,I⟩,⟨I,I⟩,⟨I,I⟩,I⟩,⟨I,I⟩,Go.K.c_impl_within _ _ _⟩,⟨(by simp_all),I⟩,(by simp_all),I,⟨notF (by omega),I⟩,⟨notF (by omega),I⟩,⟨notF (by omega),I⟩,⟨notF (by omega),I⟩,⟨notF (by omega),w64 (by omega) (by omega)⟩,⟨notF (by omega),I⟩,⟨notF (by omega),I⟩,⟨notF (by omega),w64 (by omega) (by omega)⟩,⟨notF (by omega),⟨I,I,I,I⟩,I,⟨⟨I,I⟩,⟨I,I⟩,⟨I,I⟩,I⟩,⟨I,I⟩,Go.K.c_impl_within _ _ _⟩,⟨notF (by omega),I⟩,notF (by omega),I⟩,?_⟩
         refine W.cn ?_
         conv=>whnf
         refine ⟨noT (notF (by omega)),fun _=>?_⟩
         refine W.skip ?_
         refine g 207 211 [] ?_
         conv=>whnf
         refine ⟨⟨I,I,I,kin_ints,I⟩,?_⟩
         refine gd 211 228 [[],[],[],[.x (strT y)],[],[],[],[.b (false)],[.b (false)],[.b (false)],[.b (false)],[.b (false)],[.b (false),.x (taskT t)],[.b (false)],[.b (false)],[.b (false),.call (V.b true) ([[],[]])],[.b (false)],[.b (false)]] ?_
         conv=>whnf
         refine ⟨⟨I,I,I,⟨(by omega),ixl (by assumption)⟩,I,I,I,⟨notF (by omega),I⟩,⟨notF (by omega),I⟩,⟨notF (by omega),I⟩,⟨notF (by omega),I⟩,⟨notF (by omega),I⟩,⟨notF (by omega),(by omega),ixl (by assumption)⟩,⟨notF (by omega),I⟩,⟨notF (by omega),I⟩,⟨notF (by omega),⟨I,I,I⟩,I,⟨⟨I,I⟩,⟨I,I⟩,I⟩,⟨I,I⟩,(by assumption)⟩,⟨notF (by omega),I⟩,notF (by omega),I⟩,by kernel_rfl,?_⟩
         refine W.cn ?_
         conv=>whnf
         refine ⟨noT (rfl),fun _=>?_⟩
         refine W.skip ?_
         refine rg [.i ((↑n1:Int) + (1:Int))] ?_
         conv=>whnf
         refine ⟨⟨w64 (by omega) (by omega),I,I⟩,?_⟩
         refine ⟨n1 + 1,[some 2,some 3],[153],⟨rfl,⟨rfl,rfl,rfl,rfl,⟨_,rfl,_,_,rfl,rfl,rfl⟩,rfl,rfl,rfl,rfl,rfl,I⟩,⟨⟨rfl,⟨rfl,⟨rfl,⟨rfl,⟨rfl,⟨rfl,⟨rfl,⟨rfl,⟨rfl,⟨rfl,⟨rfl,⟨rfl,⟨rfl,I⟩⟩⟩⟩⟩⟩⟩⟩⟩⟩⟩⟩⟩,⟨⟨rfl,⟨rfl,I⟩⟩,I⟩⟩,⟨(congrArg some (keysN_step hj1 hz)),I⟩⟩,?_,?_⟩
         rotate_left 1
         (dsimp only; omega)
         dsimp only
         exact ⟨by omega,jobs_step hc1 hj1 ⟨fun e=>absurd e hz,fun _=>⟨hA,hC,hD,by rw [at_get hy0]; exact hE,by rw [deps_get ht0]; exact hF,hB⟩⟩⟩
        ·rw [decide_eq_false hF] at crd
         conv=>whnf
         refine g 0 0 [] ?_
         conv=>whnf
         refine ⟨⟨I,I⟩,?_⟩
         refine W.sq ?_
         refine W.cn ?_
         conv=>whnf
         refine ⟨fun _=>?_,noF (by simp_all)⟩
         refine W.skip ?_
         refine W.sq ?_
         refine W.blk ?_
         refine g 162 166 [.x (jobT j)] ?_
         conv=>whnf
         refine ⟨⟨I,⟨(by omega),ixl (by assumption)⟩,I,I,I,⟨I,I,I,I⟩,I⟩,?_⟩
         refine W.sq ?_
         refine g 166 168 [] ?_
         conv=>whnf
         refine ⟨⟨I,I,I,I⟩,?_⟩
         refine W.cn ?_
         conv=>whnf
         refine ⟨noT (dF (by omega)),fun _=>?_⟩
         refine W.skip ?_
         refine W.sq ?_
         refine g 168 207 [.i ((Boss.epoch b - (1:Int)) * (1000000:Int) + (1:Int)),.i ((Boss.epoch b - (1:Int)) * (1000000:Int) + Boss.given b),.call (V.b (decide ((Boss.epoch b - (1:Int)) * (1000000:Int) + (1:Int) ≤ Job.lease j ∧ Job.lease j ≤ (Boss.epoch b - (1:Int)) * (1000000:Int) + Boss.given b))) ([[],[],[]]),.b (false),.b (false),.b (false),.b (false),.b (decide (Job.lease j ∈ List.map (fun l=>l) (List.filter (fun l=>decide ¬l = (0:Int)) (List.map Job.lease (List.take n1 (Boss.jobs b)))))),.b (false),.b (false),.b (false),.b (false),.b (false),.b (false),.call (V.b (decide ((1:Int) ≤ Job.worker j ∧ Job.worker j ≤ Boss.workers b))) ([[],[],[]]),.b (false),.b (false),.b (false),.b (false),.b (false),.b (false),.b (false),.i (Boss.now b + (1:Int)),.b (false),.b (false),.b (false),.i (Boss.now b + (12:Int)),.b (false),.call (V.b (decide (Boss.now b + (1:Int) ≤ Job.til j ∧ Job.til j ≤ Boss.now b + (12:Int)))) ([[],[],[]]),.b (false),.b (false)] ?_
         conv=>whnf
         refine ⟨⟨I,I,I,w64 (by omega) (by omega),I,I,I,w64 (by omega) (by omega),⟨⟨I,I,I,I⟩,I,⟨⟨I,I⟩,⟨I,I⟩,⟨I,I⟩,I⟩,⟨I,I⟩,Go.K.c_impl_within _ _ _⟩,I,I,⟨notF (by omega),I⟩,⟨notF (by omega),I⟩,⟨notF (by omega),I⟩,⟨notF (by omega),mem_ints,kin_ints⟩,notF (by omega),I,⟨(by simp_all),I⟩,⟨(by simp_all),I⟩,⟨(by simp_all),I⟩,⟨(by simp_all),I⟩,⟨(by simp_all),⟨I,I,I,I⟩,I,⟨⟨I,I⟩,⟨I,I⟩,⟨I,I⟩,I⟩,⟨I,I⟩,Go.K.c_impl_within _ _ _⟩,⟨(by simp_all),I⟩,(by simp_all),I,⟨notF (by omega),I⟩,⟨notF (by omega),I⟩,⟨notF (by omega),I⟩,⟨notF (by omega),I⟩,⟨notF (by omega),w64 (by omega) (by omega)⟩,⟨notF (by omega),I⟩,⟨notF (by omega),I⟩,⟨notF (by omega),w64 (by omega) (by omega)⟩,⟨notF (by omega),⟨I,I,I,I⟩,I,⟨⟨I,I⟩,⟨I,I⟩,⟨I,I⟩,I⟩,⟨I,I⟩,Go.K.c_impl_within _ _ _⟩,⟨notF (by omega),I⟩,notF (by omega),I⟩,?_⟩
         refine W.cn ?_
         conv=>whnf
         refine ⟨noT (notF (by omega)),fun _=>?_⟩
         refine W.skip ?_
         refine g 207 211 [] ?_
         conv=>whnf
         refine ⟨⟨I,I,I,kin_ints,I⟩,?_⟩
         refine gd 211 228 [[],[],[],[.x (strT y)],[],[],[],[.b (false)],[.b (false)],[.b (false)],[.b (false)],[.b (false)],[.b (false),.x (taskT t)],[.b (false)],[.b (false)],[.b (false),.call (V.b false) ([[],[]])],[.b (false)],[.b (false)]] ?_
         conv=>whnf
         refine ⟨⟨I,I,I,⟨(by omega),ixl (by assumption)⟩,I,I,I,⟨notF (by omega),I⟩,⟨notF (by omega),I⟩,⟨notF (by omega),I⟩,⟨notF (by omega),I⟩,⟨notF (by omega),I⟩,⟨notF (by omega),(by omega),ixl (by assumption)⟩,⟨notF (by omega),I⟩,⟨notF (by omega),I⟩,⟨notF (by omega),⟨I,I,I⟩,I,⟨⟨I,I⟩,⟨I,I⟩,I⟩,⟨I,I⟩,(by assumption)⟩,⟨notF (by omega),I⟩,notF (by omega),I⟩,by kernel_rfl,?_⟩
         refine W.cn ?_
         conv=>whnf
         refine ⟨fun _=>?_,noF (rfl)⟩
         refine g 10 12 [] ?_
         conv=>whnf
         refine ⟨⟨I,I⟩,?_⟩
         refine W.ret ?_
         refine EndsW.rt ?_
         conv=>whnf
         refine ⟨⟨I,I,I⟩,?_,rfl⟩
         exact vbf (no_up hup (jobs_no hj1 (fun q=>hF (by have:=(q.2 hz).ready; rw [deps_get ht0] at this; exact this))))
       ·conv=>whnf
        refine g 0 0 [] ?_
        conv=>whnf
        refine ⟨⟨I,I⟩,?_⟩
        refine W.sq ?_
        refine W.cn ?_
        conv=>whnf
        refine ⟨fun _=>?_,noF (by simp_all)⟩
        refine W.skip ?_
        refine W.sq ?_
        refine W.blk ?_
        refine g 162 166 [.x (jobT j)] ?_
        conv=>whnf
        refine ⟨⟨I,⟨(by omega),ixl (by assumption)⟩,I,I,I,⟨I,I,I,I⟩,I⟩,?_⟩
        refine W.sq ?_
        refine g 166 168 [] ?_
        conv=>whnf
        refine ⟨⟨I,I,I,I⟩,?_⟩
        refine W.cn ?_
        conv=>whnf
        refine ⟨noT (dF (by omega)),fun _=>?_⟩
        refine W.skip ?_
        refine W.sq ?_
        refine g 168 207 [.i ((Boss.epoch b - (1:Int)) * (1000000:Int) + (1:Int)),.i ((Boss.epoch b - (1:Int)) * (1000000:Int) + Boss.given b),.call (V.b (decide ((Boss.epoch b - (1:Int)) * (1000000:Int) + (1:Int) ≤ Job.lease j ∧ Job.lease j ≤ (Boss.epoch b - (1:Int)) * (1000000:Int) + Boss.given b))) ([[],[],[]]),.b (false),.b (false),.b (false),.b (false),.b (decide (Job.lease j ∈ List.map (fun l=>l) (List.filter (fun l=>decide ¬l = (0:Int)) (List.map Job.lease (List.take n1 (Boss.jobs b)))))),.b (false),.b (false),.b (false),.b (false),.b (false),.b (false),.call (V.b (decide ((1:Int) ≤ Job.worker j ∧ Job.worker j ≤ Boss.workers b))) ([[],[],[]]),.b (false),.b (false),.b (false),.b (false),.b (false),.b (false),.b (false),.i (Boss.now b + (1:Int)),.b (false),.b (false),.b (false),.i (Boss.now b + (12:Int)),.b (false),.call (V.b (decide (Boss.now b + (1:Int) ≤ Job.til j ∧ Job.til j ≤ Boss.now b + (12:Int)))) ([[],[],[]]),.b (false),.b (false)] ?_
        conv=>whnf
        refine ⟨⟨I,I,I,w64 (by omega) (by omega),I,I,I,w64 (by omega) (by omega),⟨⟨I,I,I,I⟩,I,⟨⟨I,I⟩,⟨I,I⟩,⟨I,I⟩,I⟩,⟨I,I⟩,Go.K.c_impl_within _ _ _⟩,I,I,⟨notF (by omega),I⟩,⟨notF (by omega),I⟩,⟨notF (by omega),I⟩,⟨notF (by omega),mem_ints,kin_ints⟩,notF (by omega),I,⟨(by simp_all),I⟩,⟨(by simp_all),I⟩,⟨(by simp_all),I⟩,⟨(by simp_all),I⟩,⟨(by simp_all),⟨I,I,I,I⟩,I,⟨⟨I,I⟩,⟨I,I⟩,⟨I,I⟩,I⟩,⟨I,I⟩,Go.K.c_impl_within _ _ _⟩,⟨(by simp_all),I⟩,(by simp_all),I,⟨notF (by omega),I⟩,⟨notF (by omega),I⟩,⟨notF (by omega),I⟩,⟨notF (by omega),I⟩,⟨notF (by omega),w64 (by omega) (by omega)⟩,⟨notF (by omega),I⟩,⟨notF (by omega),I⟩,⟨notF (by omega),w64 (by omega) (by omega)⟩,⟨notF (by omega),⟨I,I,I,I⟩,I,⟨⟨I,I⟩,⟨I,I⟩,⟨I,I⟩,I⟩,⟨I,I⟩,Go.K.c_impl_within _ _ _⟩,⟨notF (by omega),I⟩,notF (by omega),I⟩,?_⟩
        refine W.cn ?_
        conv=>whnf
        refine ⟨noT (notF (by omega)),fun _=>?_⟩
        refine W.skip ?_
        refine g 207 211 [] ?_
        conv=>whnf
        refine ⟨⟨I,I,I,kin_ints,I⟩,?_⟩
        refine gd 211 228 [[],[],[],[.x (strT y)],[],[],[],[.b (true)],[.b (true)],[.b (true)],[.b (true)],[.b (true)],[.b (true)],[.b (true)],[.b (true)],[.b (true)],[.b (true)],[.b (true)]] ?_
        conv=>whnf
        refine ⟨⟨I,I,I,⟨(by omega),ixl (by assumption)⟩,I,I,I,notT (by omega),notT (by omega),notT (by omega),notT (by omega),notT (by omega),notT (by omega),notT (by omega),notT (by omega),notT (by omega),notT (by omega),notT (by omega),I⟩,by kernel_rfl,?_⟩
        refine W.cn ?_
        conv=>whnf
        refine ⟨fun _=>?_,noF (rfl)⟩
        refine g 10 12 [] ?_
        conv=>whnf
        refine ⟨⟨I,I⟩,?_⟩
        refine W.ret ?_
        refine EndsW.rt ?_
        conv=>whnf
        refine ⟨⟨I,I,I⟩,?_,rfl⟩
        exact vbf (no_up hup (jobs_no hj1 (fun q=>hE (by have:=(q.2 hz).res; rw [at_get hy0] at this; exact this))))
      ·conv=>whnf
       refine g 0 0 [] ?_
       conv=>whnf
       refine ⟨⟨I,I⟩,?_⟩
       refine W.sq ?_
       refine W.cn ?_
       conv=>whnf
       refine ⟨fun _=>?_,noF (by simp_all)⟩
       refine W.skip ?_
       refine W.sq ?_
       refine W.blk ?_
       refine g 162 166 [.x (jobT j)] ?_
       conv=>whnf
       refine ⟨⟨I,⟨(by omega),ixl (by assumption)⟩,I,I,I,⟨I,I,I,I⟩,I⟩,?_⟩
       refine W.sq ?_
       refine g 166 168 [] ?_
       conv=>whnf
       refine ⟨⟨I,I,I,I⟩,?_⟩
       refine W.cn ?_
       conv=>whnf
       refine ⟨noT (dF (by omega)),fun _=>?_⟩
       refine W.skip ?_
       refine W.sq ?_
       refine g 168 207 [.i ((Boss.epoch b - (1:Int)) * (1000000:Int) + (1:Int)),.i ((Boss.epoch b - (1:Int)) * (1000000:Int) + Boss.given b),.call (V.b (decide ((Boss.epoch b - (1:Int)) * (1000000:Int) + (1:Int) ≤ Job.lease j ∧ Job.lease j ≤ (Boss.epoch b - (1:Int)) * (1000000:Int) + Boss.given b))) ([[],[],[]]),.b (false),.b (false),.b (false),.b (false),.b (decide (Job.lease j ∈ List.map (fun l=>l) (List.filter (fun l=>decide ¬l = (0:Int)) (List.map Job.lease (List.take n1 (Boss.jobs b)))))),.b (false),.b (false),.b (false),.b (false),.b (false),.b (false),.call (V.b (decide ((1:Int) ≤ Job.worker j ∧ Job.worker j ≤ Boss.workers b))) ([[],[],[]]),.b (false),.b (false),.b (false),.b (false),.b (false),.b (false),.b (false),.i (Boss.now b + (1:Int)),.b (false),.b (false),.b (false),.i (Boss.now b + (12:Int)),.b (false),.call (V.b (decide (Boss.now b + (1:Int) ≤ Job.til j ∧ Job.til j ≤ Boss.now b + (12:Int)))) ([[],[],[]]),.b (false),.b (false)] ?_
       conv=>whnf
       refine ⟨⟨I,I,I,w64 (by omega) (by omega),I,I,I,w64 (by omega) (by omega),⟨⟨I,I,I,I⟩,I,⟨⟨I,I⟩,⟨I,I⟩,⟨I,I⟩,I⟩,⟨I,I⟩,Go.K.c_impl_within _ _ _⟩,I,I,⟨notF (by omega),I⟩,⟨notF (by omega),I⟩,⟨notF (by omega),I⟩,⟨notF (by omega),mem_ints,kin_ints⟩,notF (by omega),I,⟨(by simp_all),I⟩,⟨(by simp_all),I⟩,⟨(by simp_all),I⟩,⟨(by simp_all),I⟩,⟨(by simp_all),⟨I,I,I,I⟩,I,⟨⟨I,I⟩,⟨I,I⟩,⟨I,I⟩,I⟩,⟨I,I⟩,Go.K.c_impl_within _ _ _⟩,⟨(by simp_all),I⟩,(by simp_all),I,⟨notF (by omega),I⟩,⟨notF (by omega),I⟩,⟨notF (by omega),I⟩,⟨notF (by omega),I⟩,⟨notF (by omega),w64 (by omega) (by omega)⟩,⟨notF (by omega),I⟩,⟨notF (by omega),I⟩,⟨notF (by omega),w64 (by omega) (by omega)⟩,⟨notF (by omega),⟨I,I,I,I⟩,I,⟨⟨I,I⟩,⟨I,I⟩,⟨I,I⟩,I⟩,⟨I,I⟩,Go.K.c_impl_within _ _ _⟩,⟨notF (by omega),I⟩,notF (by omega),I⟩,?_⟩
       refine W.cn ?_
       conv=>whnf
       refine ⟨fun _=>?_,noF (notT (by omega))⟩
       refine g 207 208 [] ?_
       conv=>whnf
       refine ⟨⟨I,I⟩,?_⟩
       refine W.ret ?_
       refine EndsW.rt ?_
       conv=>whnf
       refine ⟨⟨I,I,I⟩,?_,rfl⟩
       exact vbf (no_up hup (jobs_no hj1 (fun q=>hD (q.2 hz).til)))
     ·conv=>whnf
      refine g 0 0 [] ?_
      conv=>whnf
      refine ⟨⟨I,I⟩,?_⟩
      refine W.sq ?_
      refine W.cn ?_
      conv=>whnf
      refine ⟨fun _=>?_,noF (by simp_all)⟩
      refine W.skip ?_
      refine W.sq ?_
      refine W.blk ?_
      refine g 162 166 [.x (jobT j)] ?_
      conv=>whnf
      refine ⟨⟨I,⟨(by omega),ixl (by assumption)⟩,I,I,I,⟨I,I,I,I⟩,I⟩,?_⟩
      refine W.sq ?_
      refine g 166 168 [] ?_
      conv=>whnf
      refine ⟨⟨I,I,I,I⟩,?_⟩
      refine W.cn ?_
      conv=>whnf
      refine ⟨noT (dF (by omega)),fun _=>?_⟩
      refine W.skip ?_
      refine W.sq ?_
      refine g 168 207 [.i ((Boss.epoch b - (1:Int)) * (1000000:Int) + (1:Int)),.i ((Boss.epoch b - (1:Int)) * (1000000:Int) + Boss.given b),.call (V.b (decide ((Boss.epoch b - (1:Int)) * (1000000:Int) + (1:Int) ≤ Job.lease j ∧ Job.lease j ≤ (Boss.epoch b - (1:Int)) * (1000000:Int) + Boss.given b))) ([[],[],[]]),.b (false),.b (false),.b (false),.b (false),.b (decide (Job.lease j ∈ List.map (fun l=>l) (List.filter (fun l=>decide ¬l = (0:Int)) (List.map Job.lease (List.take n1 (Boss.jobs b)))))),.b (false),.b (false),.b (false),.b (false),.b (false),.b (false),.call (V.b (decide ((1:Int) ≤ Job.worker j ∧ Job.worker j ≤ Boss.workers b))) ([[],[],[]]),.b (false),.b (false),.b (true),.b (true),.b (true),.b (true),.b (true),.b (true),.b (true),.b (true),.b (true),.b (true),.b (true)] ?_
      conv=>whnf
      refine ⟨⟨I,I,I,w64 (by omega) (by omega),I,I,I,w64 (by omega) (by omega),⟨⟨I,I,I,I⟩,I,⟨⟨I,I⟩,⟨I,I⟩,⟨I,I⟩,I⟩,⟨I,I⟩,Go.K.c_impl_within _ _ _⟩,I,I,⟨notF (by omega),I⟩,⟨notF (by omega),I⟩,⟨notF (by omega),I⟩,⟨notF (by omega),mem_ints,kin_ints⟩,notF (by omega),I,⟨(by simp_all),I⟩,⟨(by simp_all),I⟩,⟨(by simp_all),I⟩,⟨(by simp_all),I⟩,⟨(by simp_all),⟨I,I,I,I⟩,I,⟨⟨I,I⟩,⟨I,I⟩,⟨I,I⟩,I⟩,⟨I,I⟩,Go.K.c_impl_within _ _ _⟩,⟨(by simp_all),I⟩,(by simp_all),I,notT (by omega),notT (by omega),notT (by omega),notT (by omega),notT (by omega),notT (by omega),notT (by omega),notT (by omega),notT (by omega),notT (by omega),notT (by omega),I⟩,?_⟩
      refine W.cn ?_
      conv=>whnf
      refine ⟨fun _=>?_,noF (rfl)⟩
      refine g 207 208 [] ?_
      conv=>whnf
      refine ⟨⟨I,I⟩,?_⟩
      refine W.ret ?_
      refine EndsW.rt ?_
      conv=>whnf
      refine ⟨⟨I,I,I⟩,?_,rfl⟩
      exact vbf (no_up hup (jobs_no hj1 (fun q=>hC (q.2 hz).worker)))
   ·conv=>whnf
    refine g 0 0 [] ?_
    conv=>whnf
    refine ⟨⟨I,I⟩,?_⟩
    refine W.sq ?_
    refine W.cn ?_
    conv=>whnf
    refine ⟨fun _=>?_,noF (by simp_all)⟩
    refine W.skip ?_
    refine W.sq ?_
    refine W.blk ?_
    refine g 162 166 [.x (jobT j)] ?_
    conv=>whnf
    refine ⟨⟨I,⟨(by omega),ixl (by assumption)⟩,I,I,I,⟨I,I,I,I⟩,I⟩,?_⟩
    refine W.sq ?_
    refine g 166 168 [] ?_
    conv=>whnf
    refine ⟨⟨I,I,I,I⟩,?_⟩
    refine W.cn ?_
    conv=>whnf
    refine ⟨noT (dF (by omega)),fun _=>?_⟩
    refine W.skip ?_
    refine W.sq ?_
    refine g 168 207 [.i ((Boss.epoch b - (1:Int)) * (1000000:Int) + (1:Int)),.i ((Boss.epoch b - (1:Int)) * (1000000:Int) + Boss.given b),.call (V.b (decide ((Boss.epoch b - (1:Int)) * (1000000:Int) + (1:Int) ≤ Job.lease j ∧ Job.lease j ≤ (Boss.epoch b - (1:Int)) * (1000000:Int) + Boss.given b))) ([[],[],[]]),.b (true),.b (true),.b (true),.b (true),.b (true),.b (true),.b (true),.b (true),.b (true),.b (true),.b (true),.b (true),.b (true),.b (true),.b (true),.b (true),.b (true),.b (true),.b (true),.b (true),.b (true),.b (true),.b (true)] ?_
    conv=>whnf
    refine ⟨⟨I,I,I,w64 (by omega) (by omega),I,I,I,w64 (by omega) (by omega),⟨⟨I,I,I,I⟩,I,⟨⟨I,I⟩,⟨I,I⟩,⟨I,I⟩,I⟩,⟨I,I⟩,Go.K.c_impl_within _ _ _⟩,I,I,notT (by omega),notT (by omega),notT (by omega),notT (by omega),notT (by omega),I,rfl,rfl,rfl,rfl,rfl,rfl,rfl,I,rfl,rfl,rfl,rfl,rfl,rfl,rfl,rfl,rfl,rfl,rfl,I⟩,?_⟩
    refine W.cn ?_
    conv=>whnf
    refine ⟨fun _=>?_,noF (rfl)⟩
    refine g 207 208 [] ?_
    conv=>whnf
    refine ⟨⟨I,I⟩,?_⟩
    refine W.ret ?_
    refine EndsW.rt ?_
    conv=>whnf
    refine ⟨⟨I,I,I⟩,?_,rfl⟩
    exact vbf (no_up hup (jobs_no hj1 (fun q=>hA (q.2 hz).lease)))
 have hjobs:jobsTo b p.tasks b.jobs.length:=by rw [show b.jobs.length = n1 by omega]; exact hc1
 conv=>whnf
 refine g 0 0 [] ?_
 conv=>whnf
 refine ⟨⟨I,I⟩,?_⟩
 refine W.sq ?_
 refine W.cn ?_
 conv=>whnf
 refine ⟨noT (by simp_all),fun _=>?_⟩
 refine W.exit ?_
 refine W.sq ?_
 refine g 24 231 [] ?_
 conv=>whnf
 refine ⟨⟨I,I,I,I,I⟩,?_⟩
 refine W.blk ?_
 refine W.lp (fun s (n:Nat)=>⟨[(2,s.s 2),(3,s.s 3),(22,s.s 22),(231,s.s 231),(232,s.s 232),(233,.i n)],[(2,[s.c 2 0,s.c 2 1,s.c 2 2,s.c 2 3,s.c 2 4,s.c 2 5,s.c 2 6,s.c 2 7,s.c 2 8,s.c 2 9,s.c 2 10,s.c 2 11]),(3,[s.c 3 0])],[]⟩) (fun (n:Nat)=>n ≤ b.seats.length ∧ ∀ s ∈ b.seats.take n,0 ≤ s.epoch ∧ s.epoch ≤ 300) (fun (n:Nat)=>b.seats.length - n) (0) [some 2,some 3] [] ⟨rfl,⟨rfl,rfl,rfl,rfl,rfl,rfl,I⟩,⟨⟨rfl,⟨rfl,⟨rfl,⟨rfl,⟨rfl,⟨rfl,⟨rfl,⟨rfl,⟨rfl,⟨rfl,⟨rfl,⟨rfl,⟨rfl,I⟩⟩⟩⟩⟩⟩⟩⟩⟩⟩⟩⟩⟩,⟨⟨rfl,⟨rfl,I⟩⟩,I⟩⟩,I⟩ (by simp) ?_
 rintro n2 ⟨hn2,hc2⟩
 by_cases hs2:n2 < b.seats.length
 ·obtain ⟨s,hs1⟩:=some_at hs2
  by_cases hA:0 ≤ s.epoch ∧ s.epoch ≤ 300
  ·conv=>whnf
   refine g 0 0 [] ?_
   conv=>whnf
   refine ⟨⟨I,I⟩,?_⟩
   refine W.sq ?_
   refine W.cn ?_
   conv=>whnf
   refine ⟨fun h14=>?_,fun h14=>?_⟩
   replace h14:=dt h14
   simp only [List.length_map] at h14
   refine W.skip ?_
   refine W.sq ?_
   refine W.blk ?_
   refine g 234 237 [.x (seatT s)] ?_
   conv=>whnf
   refine ⟨⟨⟨(by omega),ixl (by assumption)⟩,I,I,⟨I,I,I⟩,I⟩,?_⟩
   refine g 237 240 [.call (V.b (decide ((0:Int) ≤ Seat.epoch s ∧ Seat.epoch s ≤ (300:Int)))) ([[],[],[]])] ?_
   conv=>whnf
   refine ⟨⟨I,I,⟨⟨I,I,I,I⟩,I,⟨⟨I,I⟩,⟨I,I⟩,⟨I,I⟩,I⟩,⟨I,I⟩,Go.K.c_impl_within _ _ _⟩,I,I⟩,?_⟩
   refine W.cn ?_
   conv=>whnf
   refine ⟨noT (notF (by omega)),fun _=>?_⟩
   refine W.skip ?_
   refine rg [.i ((↑n2:Int) + (1:Int))] ?_
   conv=>whnf
   refine ⟨⟨w64 (by omega) (by omega),I,I⟩,?_⟩
   rotate_left 1
   replace h14:=df h14
   simp only [List.length_map] at h14
   omega
   refine ⟨n2 + 1,[some 2,some 3],[],⟨rfl,⟨rfl,rfl,rfl,rfl,rfl,rfl,I⟩,⟨⟨rfl,⟨rfl,⟨rfl,⟨rfl,⟨rfl,⟨rfl,⟨rfl,⟨rfl,⟨rfl,⟨rfl,⟨rfl,⟨rfl,⟨rfl,I⟩⟩⟩⟩⟩⟩⟩⟩⟩⟩⟩⟩⟩,⟨⟨rfl,⟨rfl,I⟩⟩,I⟩⟩,I⟩,?_,?_⟩
   rotate_left 1
   (dsimp only; omega)
   dsimp only
   exact ⟨by omega,mem_step hc2 hs1 hA⟩
  ·conv=>whnf
   refine g 0 0 [] ?_
   conv=>whnf
   refine ⟨⟨I,I⟩,?_⟩
   refine W.sq ?_
   refine W.cn ?_
   conv=>whnf
   refine ⟨fun h14=>?_,fun h14=>?_⟩
   replace h14:=dt h14
   simp only [List.length_map] at h14
   refine W.skip ?_
   refine W.sq ?_
   refine W.blk ?_
   refine g 234 237 [.x (seatT s)] ?_
   conv=>whnf
   refine ⟨⟨⟨(by omega),ixl (by assumption)⟩,I,I,⟨I,I,I⟩,I⟩,?_⟩
   refine g 237 240 [.call (V.b (decide ((0:Int) ≤ Seat.epoch s ∧ Seat.epoch s ≤ (300:Int)))) ([[],[],[]])] ?_
   conv=>whnf
   refine ⟨⟨I,I,⟨⟨I,I,I,I⟩,I,⟨⟨I,I⟩,⟨I,I⟩,⟨I,I⟩,I⟩,⟨I,I⟩,Go.K.c_impl_within _ _ _⟩,I,I⟩,?_⟩
   refine W.cn ?_
   conv=>whnf
   refine ⟨fun _=>?_,noF (notT (by omega))⟩
   refine g 13 14 [] ?_
   conv=>whnf
   refine ⟨⟨I,I⟩,?_⟩
   refine W.ret ?_
   refine EndsW.rt ?_
   conv=>whnf
   refine ⟨⟨I,I,I⟩,?_,rfl⟩
   rotate_left 1
   replace h14:=df h14
   simp only [List.length_map] at h14
   omega
   exact vbf (no_up hup (seats_no hs1 hA))
 have hseats:∀ s ∈ b.seats,0 ≤ s.epoch ∧ s.epoch ≤ 300:=by rw [take_all (by omega)] at hc2; exact hc2
 conv=>whnf
 refine g 0 0 [] ?_
 conv=>whnf
 refine ⟨⟨I,I⟩,?_⟩
 refine W.sq ?_
 refine W.cn ?_
 conv=>whnf
 refine ⟨fun h14=>?_,fun h14=>?_⟩
 replace h14:=dt h14
 simp only [List.length_map] at h14
 omega
 replace h14:=df h14
 simp only [List.length_map] at h14
 refine W.exit ?_
 refine W.sq ?_
 refine g 231 243 [] ?_
 conv=>whnf
 refine ⟨⟨I,I,I,I,I⟩,?_⟩
 refine W.blk ?_
 refine W.lp (fun s (n:Nat)=>⟨[(2,s.s 2),(3,s.s 3),(22,s.s 22),(243,s.s 243),(244,s.s 244),(245,.i n)],[(2,[s.c 2 0,s.c 2 1,s.c 2 2,s.c 2 3,s.c 2 4,s.c 2 5,s.c 2 6,s.c 2 7,s.c 2 8,s.c 2 9,s.c 2 10,s.c 2 11]),(3,[s.c 3 0])],[]⟩) (fun (n:Nat)=>n ≤ b.owed.length ∧ ∀ o ∈ b.owed.take n,OwedOk b p.tasks o) (fun (n:Nat)=>b.owed.length - n) (0) [some 2,some 3] [] ⟨rfl,⟨rfl,rfl,rfl,rfl,rfl,rfl,I⟩,⟨⟨rfl,⟨rfl,⟨rfl,⟨rfl,⟨rfl,⟨rfl,⟨rfl,⟨rfl,⟨rfl,⟨rfl,⟨rfl,⟨rfl,⟨rfl,I⟩⟩⟩⟩⟩⟩⟩⟩⟩⟩⟩⟩⟩,⟨⟨rfl,⟨rfl,I⟩⟩,I⟩⟩,I⟩ (by simp) ?_
 rintro n3 ⟨hn3,hc3⟩
 by_cases ho2:n3 < b.owed.length
 ·obtain ⟨o,ho1⟩:=some_at ho2
  by_cases hA:1 ≤ o.worker ∧ o.worker ≤ b.workers
  ·by_cases hB:1 ≤ o.lease ∧ o.lease ≤ 300000000
   ·by_cases hC:0 ≤ o.task ∧ o.task ≤ (p.tasks.length:Int) - 1
    ·obtain ⟨y,hy0⟩:=some_at (xs:=b.results) (n:=o.task.toNat) (by omega)
     by_cases hD:y = emp
     ·conv=>whnf
      refine g 0 0 [] ?_
      conv=>whnf
      refine ⟨⟨I,I⟩,?_⟩
      refine W.sq ?_
      refine W.cn ?_
      conv=>whnf
      refine ⟨fun _=>?_,noF (by simp [*])⟩
      refine W.skip ?_
      refine W.sq ?_
      refine W.blk ?_
      refine g 246 249 [.x (owedT o)] ?_
      conv=>whnf
      refine ⟨⟨⟨(by omega),ixl (by assumption)⟩,I,I,⟨I,I,I,I⟩,I⟩,?_⟩
      refine g 249 279 [.call (V.b (decide ((1:Int) ≤ Owed.worker o ∧ Owed.worker o ≤ Boss.workers b))) ([[],[],[]]),.b (false),.b (false),.b (false),.call (V.b (decide ((1:Int) ≤ Owed.lease o ∧ Owed.lease o ≤ (300000000:Int)))) ([[],[],[]]),.b (false),.b (false),.b (false),.b (false),.b (false),.b (false),.b (false),.b (false),.i ((↑(List.length (List.map taskT (Plan.tasks p))):Int) - (1:Int)),.b (false),.call (V.b (decide ((0:Int) ≤ Owed.task o ∧ Owed.task o ≤ (↑(List.length (List.map taskT (Plan.tasks p))):Int) - (1:Int)))) ([[],[],[]]),.b (false),.b (false),.b (false),.b (false),.b (false),.b (false),.b (false),.x (strT y),.b (false),.b (false),.b (false)] ?_
      conv=>whnf
      refine ⟨⟨I,I,I,I,⟨⟨I,I,I,I⟩,I,⟨⟨I,I⟩,⟨I,I⟩,⟨I,I⟩,I⟩,⟨I,I⟩,Go.K.c_impl_within _ _ _⟩,I,I,⟨notF (by omega),I⟩,⟨notF (by omega),I⟩,⟨notF (by omega),⟨I,I,I,I⟩,I,⟨⟨I,I⟩,⟨I,I⟩,⟨I,I⟩,I⟩,⟨I,I⟩,Go.K.c_impl_within _ _ _⟩,⟨notF (by omega),I⟩,notF (by omega),I,⟨notF (by omega),I⟩,⟨notF (by omega),I⟩,⟨notF (by omega),I⟩,⟨notF (by omega),I⟩,⟨notF (by omega),I⟩,⟨notF (by omega),w64 (by simp only [lens]; omega) (by simp only [lens]; omega)⟩,⟨notF (by omega),⟨I,I,I,I⟩,I,⟨⟨I,I⟩,⟨I,I⟩,⟨I,I⟩,I⟩,⟨I,I⟩,Go.K.c_impl_within _ _ _⟩,⟨notF (by omega),I⟩,notF (by omega),I,⟨(by simp [*]),I⟩,⟨(by simp [*]),I⟩,⟨(by simp [*]),I⟩,⟨(by simp [*]),I⟩,⟨(by simp [*]),(by omega),ixl (by assumption)⟩,⟨(by simp [*]),I⟩,⟨(by simp [*]),I⟩,(by simp [*]),I⟩,?_⟩
      refine W.cn ?_
      conv=>whnf
      refine ⟨fun _=>?_,noF (dT (by omega))⟩
      refine g 15 16 [] ?_
      conv=>whnf
      refine ⟨⟨I,I⟩,?_⟩
      refine W.ret ?_
      refine EndsW.rt ?_
      conv=>whnf
      refine ⟨⟨I,I,I⟩,?_,rfl⟩
      exact vbf (no_up hup (owed_no ho1 (fun q=>q.res (by rw [at_get' hy0]; exact hD))))
     ·conv=>whnf
      refine g 0 0 [] ?_
      conv=>whnf
      refine ⟨⟨I,I⟩,?_⟩
      refine W.sq ?_
      refine W.cn ?_
      conv=>whnf
      refine ⟨fun _=>?_,noF (by simp [*])⟩
      refine W.skip ?_
      refine W.sq ?_
      refine W.blk ?_
      refine g 246 249 [.x (owedT o)] ?_
      conv=>whnf
      refine ⟨⟨⟨(by omega),ixl (by assumption)⟩,I,I,⟨I,I,I,I⟩,I⟩,?_⟩
      refine g 249 279 [.call (V.b (decide ((1:Int) ≤ Owed.worker o ∧ Owed.worker o ≤ Boss.workers b))) ([[],[],[]]),.b (false),.b (false),.b (false),.call (V.b (decide ((1:Int) ≤ Owed.lease o ∧ Owed.lease o ≤ (300000000:Int)))) ([[],[],[]]),.b (false),.b (false),.b (false),.b (false),.b (false),.b (false),.b (false),.b (false),.i ((↑(List.length (List.map taskT (Plan.tasks p))):Int) - (1:Int)),.b (false),.call (V.b (decide ((0:Int) ≤ Owed.task o ∧ Owed.task o ≤ (↑(List.length (List.map taskT (Plan.tasks p))):Int) - (1:Int)))) ([[],[],[]]),.b (false),.b (false),.b (false),.b (false),.b (false),.b (false),.b (false),.x (strT y),.b (false),.b (false),.b (false)] ?_
      conv=>whnf
      refine ⟨⟨I,I,I,I,⟨⟨I,I,I,I⟩,I,⟨⟨I,I⟩,⟨I,I⟩,⟨I,I⟩,I⟩,⟨I,I⟩,Go.K.c_impl_within _ _ _⟩,I,I,⟨notF (by omega),I⟩,⟨notF (by omega),I⟩,⟨notF (by omega),⟨I,I,I,I⟩,I,⟨⟨I,I⟩,⟨I,I⟩,⟨I,I⟩,I⟩,⟨I,I⟩,Go.K.c_impl_within _ _ _⟩,⟨notF (by omega),I⟩,notF (by omega),I,⟨notF (by omega),I⟩,⟨notF (by omega),I⟩,⟨notF (by omega),I⟩,⟨notF (by omega),I⟩,⟨notF (by omega),I⟩,⟨notF (by omega),w64 (by simp only [lens]; omega) (by simp only [lens]; omega)⟩,⟨notF (by omega),⟨I,I,I,I⟩,I,⟨⟨I,I⟩,⟨I,I⟩,⟨I,I⟩,I⟩,⟨I,I⟩,Go.K.c_impl_within _ _ _⟩,⟨notF (by omega),I⟩,notF (by omega),I,⟨(by simp [*]),I⟩,⟨(by simp [*]),I⟩,⟨(by simp [*]),I⟩,⟨(by simp [*]),I⟩,⟨(by simp [*]),(by omega),ixl (by assumption)⟩,⟨(by simp [*]),I⟩,⟨(by simp [*]),I⟩,(by simp [*]),I⟩,?_⟩
      refine W.cn ?_
      conv=>whnf
      refine ⟨noT (dF (by omega)),fun _=>?_⟩
      refine W.skip ?_
      refine rg [.i ((↑n3:Int) + (1:Int))] ?_
      conv=>whnf
      refine ⟨⟨w64 (by omega) (by omega),I,I⟩,?_⟩
      refine ⟨n3 + 1,[some 2,some 3],[],⟨rfl,⟨rfl,rfl,rfl,rfl,rfl,rfl,I⟩,⟨⟨rfl,⟨rfl,⟨rfl,⟨rfl,⟨rfl,⟨rfl,⟨rfl,⟨rfl,⟨rfl,⟨rfl,⟨rfl,⟨rfl,⟨rfl,I⟩⟩⟩⟩⟩⟩⟩⟩⟩⟩⟩⟩⟩,⟨⟨rfl,⟨rfl,I⟩⟩,I⟩⟩,I⟩,?_,?_⟩
      rotate_left 1
      (dsimp only; omega)
      dsimp only
      exact ⟨by omega,mem_step hc3 ho1 ⟨hA,hB,hC,by rw [at_get' hy0]; exact hD⟩⟩
    ·conv=>whnf
     refine g 0 0 [] ?_
     conv=>whnf
     refine ⟨⟨I,I⟩,?_⟩
     refine W.sq ?_
     refine W.cn ?_
     conv=>whnf
     refine ⟨fun _=>?_,noF (by simp [*])⟩
     refine W.skip ?_
     refine W.sq ?_
     refine W.blk ?_
     refine g 246 249 [.x (owedT o)] ?_
     conv=>whnf
     refine ⟨⟨⟨(by omega),ixl (by assumption)⟩,I,I,⟨I,I,I,I⟩,I⟩,?_⟩
     refine g 249 279 [.call (V.b (decide ((1:Int) ≤ Owed.worker o ∧ Owed.worker o ≤ Boss.workers b))) ([[],[],[]]),.b (false),.b (false),.b (false),.call (V.b (decide ((1:Int) ≤ Owed.lease o ∧ Owed.lease o ≤ (300000000:Int)))) ([[],[],[]]),.b (false),.b (false),.b (false),.b (false),.b (false),.b (false),.b (false),.b (false),.i ((↑(List.length (List.map taskT (Plan.tasks p))):Int) - (1:Int)),.b (false),.call (V.b (decide ((0:Int) ≤ Owed.task o ∧ Owed.task o ≤ (↑(List.length (List.map taskT (Plan.tasks p))):Int) - (1:Int)))) ([[],[],[]]),.b (false),.b (false),.b (true),.b (true),.b (true),.b (true),.b (true),.b (true),.b (true),.b (true)] ?_
     conv=>whnf
     refine ⟨⟨I,I,I,I,⟨⟨I,I,I,I⟩,I,⟨⟨I,I⟩,⟨I,I⟩,⟨I,I⟩,I⟩,⟨I,I⟩,Go.K.c_impl_within _ _ _⟩,I,I,⟨notF (by omega),I⟩,⟨notF (by omega),I⟩,⟨notF (by omega),⟨I,I,I,I⟩,I,⟨⟨I,I⟩,⟨I,I⟩,⟨I,I⟩,I⟩,⟨I,I⟩,Go.K.c_impl_within _ _ _⟩,⟨notF (by omega),I⟩,notF (by omega),I,⟨notF (by omega),I⟩,⟨notF (by omega),I⟩,⟨notF (by omega),I⟩,⟨notF (by omega),I⟩,⟨notF (by omega),I⟩,⟨notF (by omega),w64 (by simp only [lens]; omega) (by simp only [lens]; omega)⟩,⟨notF (by omega),⟨I,I,I,I⟩,I,⟨⟨I,I⟩,⟨I,I⟩,⟨I,I⟩,I⟩,⟨I,I⟩,Go.K.c_impl_within _ _ _⟩,⟨notF (by omega),I⟩,notF (by omega),I,(by simp [*]),(by simp [*]),(by simp [*]),(by simp [*]),(by simp [*]),(by simp [*]),(by simp [*]),(by simp [*]),I⟩,?_⟩
     refine W.cn ?_
     conv=>whnf
     refine ⟨fun _=>?_,noF (rfl)⟩
     refine g 15 16 [] ?_
     conv=>whnf
     refine ⟨⟨I,I⟩,?_⟩
     refine W.ret ?_
     refine EndsW.rt ?_
     conv=>whnf
     refine ⟨⟨I,I,I⟩,?_,rfl⟩
     exact vbf (no_up hup (owed_no ho1 (fun q=>hC q.task)))
   ·conv=>whnf
    refine g 0 0 [] ?_
    conv=>whnf
    refine ⟨⟨I,I⟩,?_⟩
    refine W.sq ?_
    refine W.cn ?_
    conv=>whnf
    refine ⟨fun _=>?_,noF (by simp [*])⟩
    refine W.skip ?_
    refine W.sq ?_
    refine W.blk ?_
    refine g 246 249 [.x (owedT o)] ?_
    conv=>whnf
    refine ⟨⟨⟨(by omega),ixl (by assumption)⟩,I,I,⟨I,I,I,I⟩,I⟩,?_⟩
    refine g 249 279 [.call (V.b (decide ((1:Int) ≤ Owed.worker o ∧ Owed.worker o ≤ Boss.workers b))) ([[],[],[]]),.b (false),.b (false),.b (false),.call (V.b (decide ((1:Int) ≤ Owed.lease o ∧ Owed.lease o ≤ (300000000:Int)))) ([[],[],[]]),.b (false),.b (false),.b (true),.b (true),.b (true),.b (true),.b (true),.b (true),.b (true),.b (true),.b (true),.b (true),.b (true),.b (true),.b (true),.b (true),.b (true),.b (true),.b (true)] ?_
    conv=>whnf
    refine ⟨⟨I,I,I,I,⟨⟨I,I,I,I⟩,I,⟨⟨I,I⟩,⟨I,I⟩,⟨I,I⟩,I⟩,⟨I,I⟩,Go.K.c_impl_within _ _ _⟩,I,I,⟨notF (by omega),I⟩,⟨notF (by omega),I⟩,⟨notF (by omega),⟨I,I,I,I⟩,I,⟨⟨I,I⟩,⟨I,I⟩,⟨I,I⟩,I⟩,⟨I,I⟩,Go.K.c_impl_within _ _ _⟩,⟨notF (by omega),I⟩,notF (by omega),I,notT (by omega),notT (by omega),notT (by omega),notT (by omega),notT (by omega),notT (by omega),notT (by omega),notT (by omega),notT (by omega),I,rfl,rfl,rfl,rfl,rfl,rfl,rfl,rfl,I⟩,?_⟩
    refine W.cn ?_
    conv=>whnf
    refine ⟨fun _=>?_,noF (rfl)⟩
    refine g 15 16 [] ?_
    conv=>whnf
    refine ⟨⟨I,I⟩,?_⟩
    refine W.ret ?_
    refine EndsW.rt ?_
    conv=>whnf
    refine ⟨⟨I,I,I⟩,?_,rfl⟩
    exact vbf (no_up hup (owed_no ho1 (fun q=>hB q.lease)))
  ·conv=>whnf
   refine g 0 0 [] ?_
   conv=>whnf
   refine ⟨⟨I,I⟩,?_⟩
   refine W.sq ?_
   refine W.cn ?_
   conv=>whnf
   refine ⟨fun _=>?_,noF (by simp [*])⟩
   refine W.skip ?_
   refine W.sq ?_
   refine W.blk ?_
   refine g 246 249 [.x (owedT o)] ?_
   conv=>whnf
   refine ⟨⟨⟨(by omega),ixl (by assumption)⟩,I,I,⟨I,I,I,I⟩,I⟩,?_⟩
   refine g 249 279 [.call (V.b (decide ((1:Int) ≤ Owed.worker o ∧ Owed.worker o ≤ Boss.workers b))) ([[],[],[]]),.b (true),.b (true),.b (true),.b (true),.b (true),.b (true),.b (true),.b (true),.b (true),.b (true),.b (true),.b (true),.b (true),.b (true),.b (true),.b (true),.b (true),.b (true),.b (true),.b (true),.b (true),.b (true)] ?_
   conv=>whnf
   refine ⟨⟨I,I,I,I,⟨⟨I,I,I,I⟩,I,⟨⟨I,I⟩,⟨I,I⟩,⟨I,I⟩,I⟩,⟨I,I⟩,Go.K.c_impl_within _ _ _⟩,I,I,notT (by omega),notT (by omega),notT (by omega),notT (by omega),notT (by omega),I,rfl,rfl,rfl,rfl,rfl,rfl,rfl,rfl,rfl,I,rfl,rfl,rfl,rfl,rfl,rfl,rfl,rfl,I⟩,?_⟩
   refine W.cn ?_
   conv=>whnf
   refine ⟨fun _=>?_,noF (rfl)⟩
   refine g 15 16 [] ?_
   conv=>whnf
   refine ⟨⟨I,I⟩,?_⟩
   refine W.ret ?_
   refine EndsW.rt ?_
   conv=>whnf
   refine ⟨⟨I,I,I⟩,?_,rfl⟩
   exact vbf (no_up hup (owed_no ho1 (fun q=>hA q.worker)))
 have howed:∀ o ∈ b.owed,OwedOk b p.tasks o:=by rw [take_all (by omega)] at hc3; exact hc3
 conv=>whnf
 refine g 0 0 [] ?_
 conv=>whnf
 refine ⟨⟨I,I⟩,?_⟩
 refine W.sq ?_
 refine W.cn ?_
 conv=>whnf
 refine ⟨noT (by simp [*]),fun _=>?_⟩
 refine W.exit ?_
 refine g 22 247 [] ?_
 conv=>whnf
 refine ⟨⟨I,I⟩,?_⟩
 refine W.ret ?_
 refine EndsW.rt ?_
 conv=>whnf
 refine ⟨⟨I,I,I⟩,?_,rfl⟩
 exact vbt ⟨hc0,f6,f7,hk,fun _=>⟨f1,f2,f3,f4,f5,g1,g2,g3,g4,hjobs,hseats,howed⟩,fun e=>by rw [hup] at e; cases e⟩
end Go.K
end
section
set_option linter.unusedVariables false
set_option linter.unusedSimpArgs false
set_option maxHeartbeats 8000000
set_option maxRecDepth 20000
open Go Go.Tm Go.Proofs
namespace Go.K
theorem once_step {b:Boss} {k:Nat} {j2:Job} {l:Int} (hc:l ∉ (b.jobs.take k).map Job.lease) (h:b.jobs[k]? = some j2) (hn:¬ j2.lease = l):l ∉ (b.jobs.take (k + 1)).map Job.lease:=fun e=>by
 rw [List.take_add_one,h,List.map_append] at e
 rcases List.mem_append.1 e with e | e
 ·exact hc e
 ·simp at e; exact hn e.symm
theorem once_no {b:Boss} {k n:Nat} {j2:Job} {l:Int} (hk:k < n) (h:b.jobs[k]? = some j2) (hn:j2.lease = l):l ∈ (b.jobs.take n).map Job.lease :=
 List.mem_map.2 ⟨j2,List.mem_of_getElem? (i:=k) (by rw [List.getElem?_take,if_pos hk]; exact h),hn⟩
theorem jobs_no2 {b:Boss} {ts:List Task} {n:Nat} {j:Job} (hj:b.jobs[n]? = some j) (h:¬ jobOk b ts n j):¬ jobsTo b ts b.jobs.length:=fun q=>h (q n j (List.getElem?_eq_some_iff.1 hj).1 hj)
noncomputable instance (b:Boss) (ts:List Task) (n:Nat):Decidable (jobsTo b ts n):=Classical.propDecidable _
theorem c_spec_l5JobsOk (b:Boss) (p:Plan) (hc0:checkPlan p.tasks = 0) (f1:1 ≤ b.epoch) (f2:b.epoch ≤ 300) (f3:b.results.length = p.tasks.length) (f4:b.jobs.length = p.tasks.length) (f7:0 ≤ b.now ∧ b.now ≤ 1000000) (f8:0 ≤ b.given ∧ b.given ≤ 1000000):F n_spec_l5JobsOk [.val (bossR b),.val (planR p)] (.b (decide (jobsTo b p.tasks b.jobs.length))) [[],[]]:=by
 have hpl:=(chk_inv hc0).1
 refine i_spec_l5JobsOk ?_
 conv=>whnf
 refine g 0 2 [] ?_
 conv=>whnf
 refine ⟨⟨⟨I,I,I,I,I,I,I,I,I,I,I,I,I⟩,⟨I,I⟩,I,I⟩,?_⟩
 refine g 11 13 [.i (Boss.epoch b - (1:Int)),.i ((Boss.epoch b - (1:Int)) * (1000000:Int))] ?_
 conv=>whnf
 refine ⟨⟨I,I,w64 (by omega) (by omega),w64 (by omega) (by omega),I,I⟩,?_⟩
 refine W.sq ?_
 refine g 9 10 [] ?_
 conv=>whnf
 refine ⟨⟨I,I⟩,?_⟩
 refine W.blk ?_
 refine W.lp (fun s (n:Nat)=>⟨[(2,s.s 2),(3,s.s 3),(5,s.s 5),(6,.i n),(10,s.s 10)],[(2,[s.c 2 0,s.c 2 1,s.c 2 2,s.c 2 3,s.c 2 4,s.c 2 5,s.c 2 6,s.c 2 7,s.c 2 8,s.c 2 9,s.c 2 10,s.c 2 11]),(3,[s.c 3 0])],[]⟩) (fun (n:Nat)=>n ≤ b.jobs.length ∧ jobsTo b p.tasks n) (fun (n:Nat)=>b.jobs.length - n) (0) [some 2,some 3] [] ⟨rfl,⟨rfl,rfl,rfl,rfl,rfl,I⟩,⟨⟨rfl,⟨rfl,⟨rfl,⟨rfl,⟨rfl,⟨rfl,⟨rfl,⟨rfl,⟨rfl,⟨rfl,⟨rfl,⟨rfl,⟨rfl,I⟩⟩⟩⟩⟩⟩⟩⟩⟩⟩⟩⟩⟩,⟨⟨rfl,⟨rfl,I⟩⟩,I⟩⟩,I⟩ ?_ ?_
 ·exact ⟨Nat.zero_le _,fun m j hm=>by omega⟩
 rintro n1 ⟨hn1,hc1⟩
 by_cases hj2:n1 < b.jobs.length
 ·obtain ⟨j,hj1⟩:=some_at hj2
  obtain ⟨y,hy0⟩:=some_at (xs:=b.results) (n:=n1) (by omega)
  obtain ⟨t,ht0⟩:=some_at (xs:=p.tasks) (n:=n1) (by omega)
  obtain ⟨_,_,a3,a4⟩:=chk_task hc0 ht0
  have crd:=c_spec_l4Deps p b.results (n1:Int) (t:=t) (by omega) (by rw [Int.toNat_natCast]; exact ht0) (fun d hd=>by have:=a4 d hd; omega) (by omega)
  by_cases hz:j.lease = 0
  ·by_cases hz2:j.worker = 0 ∧ j.til = 0
   ·have hjo:jobOk b p.tasks n1 j:=⟨fun _=>hz2,fun e=>absurd hz e⟩
    obtain ⟨hz3,hz4⟩:=hz2
    conv=>whnf
    refine W.sq ?_
    refine g 13 17 [] ?_
    conv=>whnf
    refine ⟨⟨I,I,I,I,I,I⟩,?_⟩
    refine W.cn ?_
    conv=>whnf
    refine ⟨fun _=>?_,noF (by simp_all)⟩
    refine W.skip ?_
    refine W.sq ?_
    refine W.blk ?_
    refine g 17 25 [.x (jobT j)] ?_
    conv=>whnf
    refine ⟨⟨I,I,I,⟨(by omega),ixl (by assumption)⟩,I,I,⟨I,I,I,I⟩,I⟩,?_⟩
    refine W.sq ?_
    refine g 25 27 [] ?_
    conv=>whnf
    refine ⟨⟨I,I,I,I⟩,?_⟩
    refine W.cn ?_
    conv=>whnf
    refine ⟨fun _=>?_,noF (dT (by omega))⟩
    refine W.sq ?_
    refine g 31 35 [.b (false),.b (false),.b (false),.b (false)] ?_
    conv=>whnf
    refine ⟨⟨I,I,I,I,⟨notF (by omega),I⟩,⟨notF (by omega),I⟩,⟨notF (by omega),I⟩,notF (by omega),I⟩,?_⟩
    refine W.cn ?_
    conv=>whnf
    refine ⟨noT (notF (by omega)),fun _=>?_⟩
    refine W.skip ?_
    refine W.exit ?_
    refine rg [.i ((↑n1:Int) + (1:Int))] ?_
    conv=>whnf
    refine ⟨⟨I,w64 (by omega) (by omega),I,I⟩,?_⟩
    refine ⟨n1 + 1,[some 2,some 3],[],⟨rfl,⟨rfl,rfl,rfl,rfl,rfl,I⟩,⟨⟨rfl,⟨rfl,⟨rfl,⟨rfl,⟨rfl,⟨rfl,⟨rfl,⟨rfl,⟨rfl,⟨rfl,⟨rfl,⟨rfl,⟨rfl,I⟩⟩⟩⟩⟩⟩⟩⟩⟩⟩⟩⟩⟩,⟨⟨rfl,⟨rfl,I⟩⟩,I⟩⟩,I⟩,?_,?_⟩
    rotate_left 1
    (dsimp only; omega)
    dsimp only
    exact ⟨by omega,jobs_step hc1 hj1 hjo⟩
   ·conv=>whnf
    refine W.sq ?_
    refine g 13 17 [] ?_
    conv=>whnf
    refine ⟨⟨I,I,I,I,I,I⟩,?_⟩
    refine W.cn ?_
    conv=>whnf
    refine ⟨fun _=>?_,noF (by simp_all)⟩
    refine W.skip ?_
    refine W.sq ?_
    refine W.blk ?_
    refine g 17 25 [.x (jobT j)] ?_
    conv=>whnf
    refine ⟨⟨I,I,I,⟨(by omega),ixl (by assumption)⟩,I,I,⟨I,I,I,I⟩,I⟩,?_⟩
    refine W.sq ?_
    refine g 25 27 [] ?_
    conv=>whnf
    refine ⟨⟨I,I,I,I⟩,?_⟩
    refine W.cn ?_
    conv=>whnf
    refine ⟨fun _=>?_,noF (dT (by omega))⟩
    refine W.sq ?_
    by_cases h1:Job.worker j = (0:Int)
    refine g 31 35 [.b (false),.b (false),.b (false),.b (false)] ?_
    conv=>whnf
    refine ⟨⟨I,I,I,I,⟨notF (by omega),I⟩,⟨notF (by omega),I⟩,⟨notF (by omega),I⟩,notF (by omega),I⟩,?_⟩
    refine W.cn ?_
    conv=>whnf
    refine ⟨fun _=>?_,noF (notT (by omega))⟩
    refine g 27 30 [] ?_
    conv=>whnf
    refine ⟨⟨I,I⟩,?_⟩
    refine W.ret ?_
    refine EndsW.rt ?_
    conv=>whnf
    refine ⟨⟨I,I,I⟩,?_,rfl⟩
    rotate_left 1
    refine g 31 35 [.b (true),.b (true),.b (true),.b (true)] ?_
    conv=>whnf
    refine ⟨⟨I,I,I,I,notT (by omega),notT (by omega),notT (by omega),notT (by omega),I⟩,?_⟩
    refine W.cn ?_
    conv=>whnf
    refine ⟨fun _=>?_,noF (rfl)⟩
    refine g 27 30 [] ?_
    conv=>whnf
    refine ⟨⟨I,I⟩,?_⟩
    refine W.ret ?_
    refine EndsW.rt ?_
    conv=>whnf
    refine ⟨⟨I,I,I⟩,?_,rfl⟩
    rotate_left 1
    all_goals exact vbf (jobs_no2 hj1 (fun q=>by have:=q.1 hz; omega))
  ·by_cases hA:(b.epoch - 1) * 1000000 + 1 ≤ j.lease ∧ j.lease ≤ (b.epoch - 1) * 1000000 + b.given
   ·by_cases hC:1 ≤ j.worker ∧ j.worker ≤ b.workers
    ·by_cases hD:b.now + 1 ≤ j.til ∧ j.til ≤ b.now + 12
     ·by_cases hE:y = emp
      ·by_cases hF:readyB b.results t.deps
       ·rw [decide_eq_true hF] at crd
        conv=>whnf
        refine W.sq ?_
        refine g 13 17 [] ?_
        conv=>whnf
        refine ⟨⟨I,I,I,I,I,I⟩,?_⟩
        refine W.cn ?_
        conv=>whnf
        refine ⟨fun _=>?_,noF (by simp_all)⟩
        refine W.skip ?_
        refine W.sq ?_
        refine W.blk ?_
        refine g 17 25 [.x (jobT j)] ?_
        conv=>whnf
        refine ⟨⟨I,I,I,⟨(by omega),ixl (by assumption)⟩,I,I,⟨I,I,I,I⟩,I⟩,?_⟩
        refine W.sq ?_
        refine g 25 27 [] ?_
        conv=>whnf
        refine ⟨⟨I,I,I,I⟩,?_⟩
        refine W.cn ?_
        conv=>whnf
        refine ⟨noT (dF (by omega)),fun _=>?_⟩
        refine W.skip ?_
        refine W.sq ?_
        refine g 27 81 [.i ((Boss.epoch b - (1:Int)) * (1000000:Int) + (1:Int)),.i ((Boss.epoch b - (1:Int)) * (1000000:Int) + Boss.given b),.call (V.b (decide ((Boss.epoch b - (1:Int)) * (1000000:Int) + (1:Int) ≤ Job.lease j ∧ Job.lease j ≤ (Boss.epoch b - (1:Int)) * (1000000:Int) + Boss.given b))) ([[],[],[]]),.b (false),.b (false),.b (false),.b (false),.b (false),.call (V.b (decide ((1:Int) ≤ Job.worker j ∧ Job.worker j ≤ Boss.workers b))) ([[],[],[]]),.b (false),.b (false),.b (false),.b (false),.b (false),.b (false),.b (false),.i (Boss.now b + (1:Int)),.b (false),.b (false),.b (false),.i (Boss.now b + (12:Int)),.b (false),.call (V.b (decide (Boss.now b + (1:Int) ≤ Job.til j ∧ Job.til j ≤ Boss.now b + (12:Int)))) ([[],[],[]]),.b (false),.b (false),.b (false),.b (false),.b (false),.b (false),.x (strT y),.b (false),.b (false),.b (false),.b (false),.b (false),.b (false),.b (false),.b (false),.call (V.b true) ([[],[],[]]),.b (false),.b (false)] ?_
        conv=>whnf
        refine ⟨⟨I,I,I,w64 (by omega) (by omega),I,I,I,w64 (by omega) (by omega),⟨⟨I,I,I,I⟩,I,⟨⟨I,I⟩,⟨I,I⟩,⟨I,I⟩,I⟩,⟨I,I⟩,Go.K.c_spec_l2In _ _ _⟩,I,I,⟨notF (by omega),I⟩,⟨notF (by omega),I⟩,⟨notF (by omega),I⟩,⟨notF (by omega),I⟩,⟨notF (by omega),⟨I,I,I,I⟩,I,⟨⟨I,I⟩,⟨I,I⟩,⟨I,I⟩,I⟩,⟨I,I⟩,Go.K.c_spec_l2In _ _ _⟩,⟨notF (by omega),I⟩,notF (by omega),I,⟨notF (by omega),I⟩,⟨notF (by omega),I⟩,⟨notF (by omega),I⟩,⟨notF (by omega),I⟩,⟨notF (by omega),w64 (by omega) (by omega)⟩,⟨notF (by omega),I⟩,⟨notF (by omega),I⟩,⟨notF (by omega),w64 (by omega) (by omega)⟩,⟨notF (by omega),⟨I,I,I,I⟩,I,⟨⟨I,I⟩,⟨I,I⟩,⟨I,I⟩,I⟩,⟨I,I⟩,Go.K.c_spec_l2In _ _ _⟩,⟨notF (by omega),I⟩,notF (by omega),I,⟨notF (by omega),I⟩,⟨notF (by omega),I⟩,⟨notF (by omega),I⟩,⟨notF (by omega),(by omega),ixl (by assumption)⟩,⟨notF (by omega),I⟩,⟨notF (by omega),I⟩,notF (by omega),I,⟨notF (by omega),I⟩,⟨notF (by omega),I⟩,⟨notF (by omega),I⟩,⟨notF (by omega),I⟩,⟨notF (by omega),⟨I,I,I,I⟩,I,⟨⟨I,I⟩,⟨I,I⟩,⟨I,I⟩,I⟩,⟨I,I⟩,(by assumption)⟩,⟨notF (by omega),I⟩,notF (by omega),I⟩,?_⟩
        refine W.cn ?_
        conv=>whnf
        refine ⟨noT (rfl),fun _=>?_⟩
        refine W.skip ?_
        refine g 81 82 [] ?_
        conv=>whnf
        refine ⟨⟨I,I⟩,?_⟩
        refine W.blk ?_
        refine W.lp (fun s (k:Nat)=>⟨[(2,s.s 2),(3,s.s 3),(5,s.s 5),(6,s.s 6),(7,s.s 7),(8,.i k),(10,s.s 10)],[(2,[s.c 2 0,s.c 2 1,s.c 2 2,s.c 2 3,s.c 2 4,s.c 2 5,s.c 2 6,s.c 2 7,s.c 2 8,s.c 2 9,s.c 2 10,s.c 2 11]),(3,[s.c 3 0]),(7,[s.c 7 0,s.c 7 1,s.c 7 2])],[]⟩) (fun (k:Nat)=>k ≤ n1 ∧ j.lease ∉ (b.jobs.take k).map Job.lease) (fun (k:Nat)=>n1 - k) (0) [some 2,some 3,some 7] [] ⟨rfl,⟨rfl,rfl,rfl,rfl,rfl,rfl,rfl,I⟩,⟨⟨rfl,⟨rfl,⟨rfl,⟨rfl,⟨rfl,⟨rfl,⟨rfl,⟨rfl,⟨rfl,⟨rfl,⟨rfl,⟨rfl,⟨rfl,I⟩⟩⟩⟩⟩⟩⟩⟩⟩⟩⟩⟩⟩,⟨⟨rfl,⟨rfl,I⟩⟩,⟨⟨rfl,⟨rfl,⟨rfl,⟨rfl,I⟩⟩⟩⟩,I⟩⟩⟩,I⟩ (by simp) ?_
        rintro k ⟨hk,hB⟩
        by_cases hk2:k < n1
        ·obtain ⟨j2,hj3⟩:=some_at (xs:=b.jobs) (n:=k) (by omega)
         by_cases hq:j2.lease = j.lease
         ·conv=>whnf
          refine W.sq ?_
          refine g 82 84 [] ?_
          conv=>whnf
          refine ⟨⟨I,I,I,I⟩,?_⟩
          refine W.cn ?_
          conv=>whnf
          refine ⟨fun _=>?_,noF (dT (by omega))⟩
          refine W.skip ?_
          refine W.sq ?_
          refine W.blk ?_
          refine gd 84 95 [[],[],[],[.x (jobT j2)],[],[],[],[],[]] ?_
          conv=>whnf
          refine ⟨⟨I,I,I,⟨(by omega),ixl (by assumption)⟩,I,I,I,I,I,I⟩,by kernel_rfl,?_⟩
          refine W.cn ?_
          conv=>whnf
          refine ⟨fun _=>?_,noF (dT (by omega))⟩
          refine g 95 96 [] ?_
          conv=>whnf
          refine ⟨⟨I,I⟩,?_⟩
          refine W.ret ?_
          refine EndsW.rt ?_
          conv=>whnf
          refine ⟨⟨I,I,I⟩,?_,rfl⟩
          exact vbf (jobs_no2 hj1 (fun q=>(q.2 hz).once (once_no hk2 hj3 hq)))
         ·conv=>whnf
          refine W.sq ?_
          refine g 82 84 [] ?_
          conv=>whnf
          refine ⟨⟨I,I,I,I⟩,?_⟩
          refine W.cn ?_
          conv=>whnf
          refine ⟨fun _=>?_,noF (dT (by omega))⟩
          refine W.skip ?_
          refine W.sq ?_
          refine W.blk ?_
          refine gd 84 95 [[],[],[],[.x (jobT j2)],[],[],[],[],[]] ?_
          conv=>whnf
          refine ⟨⟨I,I,I,⟨(by omega),ixl (by assumption)⟩,I,I,I,I,I,I⟩,by kernel_rfl,?_⟩
          refine W.cn ?_
          conv=>whnf
          refine ⟨noT (dF (by omega)),fun _=>?_⟩
          refine W.skip ?_
          refine rg [.i ((↑k:Int) + (1:Int))] ?_
          conv=>whnf
          refine ⟨⟨I,w64 (by omega) (by omega),I,I⟩,?_⟩
          refine ⟨k + 1,[some 2,some 3,some 7],[],⟨rfl,⟨rfl,rfl,rfl,rfl,rfl,rfl,rfl,I⟩,⟨⟨rfl,⟨rfl,⟨rfl,⟨rfl,⟨rfl,⟨rfl,⟨rfl,⟨rfl,⟨rfl,⟨rfl,⟨rfl,⟨rfl,⟨rfl,I⟩⟩⟩⟩⟩⟩⟩⟩⟩⟩⟩⟩⟩,⟨⟨rfl,⟨rfl,I⟩⟩,⟨⟨rfl,⟨rfl,⟨rfl,⟨rfl,I⟩⟩⟩⟩,I⟩⟩⟩,I⟩,?_,?_⟩
          rotate_left 1
          (dsimp only; omega)
          dsimp only
          exact ⟨by omega,once_step hB hj3 hq⟩
        ·rw [show k = n1 by omega] at hB
         conv=>whnf
         refine W.sq ?_
         refine g 82 84 [] ?_
         conv=>whnf
         refine ⟨⟨I,I,I,I⟩,?_⟩
         refine W.cn ?_
         conv=>whnf
         refine ⟨noT (dF (by omega)),fun _=>?_⟩
         refine W.exit ?_
         refine rg [.i ((↑n1:Int) + (1:Int))] ?_
         conv=>whnf
         refine ⟨⟨I,w64 (by omega) (by omega),I,I⟩,?_⟩
         refine ⟨n1 + 1,[some 2,some 3],[],⟨rfl,⟨rfl,rfl,rfl,rfl,rfl,I⟩,⟨⟨rfl,⟨rfl,⟨rfl,⟨rfl,⟨rfl,⟨rfl,⟨rfl,⟨rfl,⟨rfl,⟨rfl,⟨rfl,⟨rfl,⟨rfl,I⟩⟩⟩⟩⟩⟩⟩⟩⟩⟩⟩⟩⟩,⟨⟨rfl,⟨rfl,I⟩⟩,I⟩⟩,I⟩,?_,?_⟩
         rotate_left 1
         (dsimp only; omega)
         dsimp only
         exact ⟨by omega,jobs_step hc1 hj1 ⟨fun e=>absurd e hz,fun _=>⟨hA,hC,hD,by rw [at_get hy0]; exact hE,by rw [deps_get ht0]; exact hF,hB⟩⟩⟩
       ·rw [decide_eq_false hF] at crd
        conv=>whnf
        refine W.sq ?_
        refine g 13 17 [] ?_
        conv=>whnf
        refine ⟨⟨I,I,I,I,I,I⟩,?_⟩
        refine W.cn ?_
        conv=>whnf
        refine ⟨fun _=>?_,noF (by simp_all)⟩
        refine W.skip ?_
        refine W.sq ?_
        refine W.blk ?_
        refine g 17 25 [.x (jobT j)] ?_
        conv=>whnf
        refine ⟨⟨I,I,I,⟨(by omega),ixl (by assumption)⟩,I,I,⟨I,I,I,I⟩,I⟩,?_⟩
        refine W.sq ?_
        refine g 25 27 [] ?_
        conv=>whnf
        refine ⟨⟨I,I,I,I⟩,?_⟩
        refine W.cn ?_
        conv=>whnf
        refine ⟨noT (dF (by omega)),fun _=>?_⟩
        refine W.skip ?_
        refine W.sq ?_
        refine g 27 81 [.i ((Boss.epoch b - (1:Int)) * (1000000:Int) + (1:Int)),.i ((Boss.epoch b - (1:Int)) * (1000000:Int) + Boss.given b),.call (V.b (decide ((Boss.epoch b - (1:Int)) * (1000000:Int) + (1:Int) ≤ Job.lease j ∧ Job.lease j ≤ (Boss.epoch b - (1:Int)) * (1000000:Int) + Boss.given b))) ([[],[],[]]),.b (false),.b (false),.b (false),.b (false),.b (false),.call (V.b (decide ((1:Int) ≤ Job.worker j ∧ Job.worker j ≤ Boss.workers b))) ([[],[],[]]),.b (false),.b (false),.b (false),.b (false),.b (false),.b (false),.b (false),.i (Boss.now b + (1:Int)),.b (false),.b (false),.b (false),.i (Boss.now b + (12:Int)),.b (false),.call (V.b (decide (Boss.now b + (1:Int) ≤ Job.til j ∧ Job.til j ≤ Boss.now b + (12:Int)))) ([[],[],[]]),.b (false),.b (false),.b (false),.b (false),.b (false),.b (false),.x (strT y),.b (false),.b (false),.b (false),.b (false),.b (false),.b (false),.b (false),.b (false),.call (V.b false) ([[],[],[]]),.b (false),.b (false)] ?_
        conv=>whnf
        refine ⟨⟨I,I,I,w64 (by omega) (by omega),I,I,I,w64 (by omega) (by omega),⟨⟨I,I,I,I⟩,I,⟨⟨I,I⟩,⟨I,I⟩,⟨I,I⟩,I⟩,⟨I,I⟩,Go.K.c_spec_l2In _ _ _⟩,I,I,⟨notF (by omega),I⟩,⟨notF (by omega),I⟩,⟨notF (by omega),I⟩,⟨notF (by omega),I⟩,⟨notF (by omega),⟨I,I,I,I⟩,I,⟨⟨I,I⟩,⟨I,I⟩,⟨I,I⟩,I⟩,⟨I,I⟩,Go.K.c_spec_l2In _ _ _⟩,⟨notF (by omega),I⟩,notF (by omega),I,⟨notF (by omega),I⟩,⟨notF (by omega),I⟩,⟨notF (by omega),I⟩,⟨notF (by omega),I⟩,⟨notF (by omega),w64 (by omega) (by omega)⟩,⟨notF (by omega),I⟩,⟨notF (by omega),I⟩,⟨notF (by omega),w64 (by omega) (by omega)⟩,⟨notF (by omega),⟨I,I,I,I⟩,I,⟨⟨I,I⟩,⟨I,I⟩,⟨I,I⟩,I⟩,⟨I,I⟩,Go.K.c_spec_l2In _ _ _⟩,⟨notF (by omega),I⟩,notF (by omega),I,⟨notF (by omega),I⟩,⟨notF (by omega),I⟩,⟨notF (by omega),I⟩,⟨notF (by omega),(by omega),ixl (by assumption)⟩,⟨notF (by omega),I⟩,⟨notF (by omega),I⟩,notF (by omega),I,⟨notF (by omega),I⟩,⟨notF (by omega),I⟩,⟨notF (by omega),I⟩,⟨notF (by omega),I⟩,⟨notF (by omega),⟨I,I,I,I⟩,I,⟨⟨I,I⟩,⟨I,I⟩,⟨I,I⟩,I⟩,⟨I,I⟩,(by assumption)⟩,⟨notF (by omega),I⟩,notF (by omega),I⟩,?_⟩
        refine W.cn ?_
        conv=>whnf
        refine ⟨fun _=>?_,noF (rfl)⟩
        refine g 81 82 [] ?_
        conv=>whnf
        refine ⟨⟨I,I⟩,?_⟩
        refine W.ret ?_
        refine EndsW.rt ?_
        conv=>whnf
        refine ⟨⟨I,I,I⟩,?_,rfl⟩
        exact vbf (jobs_no2 hj1 (fun q=>hF (by have:=(q.2 hz).ready; rw [deps_get ht0] at this; exact this)))
      ·conv=>whnf
       refine W.sq ?_
       refine g 13 17 [] ?_
       conv=>whnf
       refine ⟨⟨I,I,I,I,I,I⟩,?_⟩
       refine W.cn ?_
       conv=>whnf
       refine ⟨fun _=>?_,noF (by simp_all)⟩
       refine W.skip ?_
       refine W.sq ?_
       refine W.blk ?_
       refine g 17 25 [.x (jobT j)] ?_
       conv=>whnf
       refine ⟨⟨I,I,I,⟨(by omega),ixl (by assumption)⟩,I,I,⟨I,I,I,I⟩,I⟩,?_⟩
       refine W.sq ?_
       refine g 25 27 [] ?_
       conv=>whnf
       refine ⟨⟨I,I,I,I⟩,?_⟩
       refine W.cn ?_
       conv=>whnf
       refine ⟨noT (dF (by omega)),fun _=>?_⟩
       refine W.skip ?_
       refine W.sq ?_
       refine g 27 81 [.i ((Boss.epoch b - (1:Int)) * (1000000:Int) + (1:Int)),.i ((Boss.epoch b - (1:Int)) * (1000000:Int) + Boss.given b),.call (V.b (decide ((Boss.epoch b - (1:Int)) * (1000000:Int) + (1:Int) ≤ Job.lease j ∧ Job.lease j ≤ (Boss.epoch b - (1:Int)) * (1000000:Int) + Boss.given b))) ([[],[],[]]),.b (false),.b (false),.b (false),.b (false),.b (false),.call (V.b (decide ((1:Int) ≤ Job.worker j ∧ Job.worker j ≤ Boss.workers b))) ([[],[],[]]),.b (false),.b (false),.b (false),.b (false),.b (false),.b (false),.b (false),.i (Boss.now b + (1:Int)),.b (false),.b (false),.b (false),.i (Boss.now b + (12:Int)),.b (false),.call (V.b (decide (Boss.now b + (1:Int) ≤ Job.til j ∧ Job.til j ≤ Boss.now b + (12:Int)))) ([[],[],[]]),.b (false),.b (false),.b (false),.b (false),.b (false),.b (false),.x (strT y),.b (false),.b (false),.b (false),.b (true),.b (true),.b (true),.b (true),.b (true),.b (true),.b (true)] ?_
       conv=>whnf
       refine ⟨⟨I,I,I,w64 (by omega) (by omega),I,I,I,w64 (by omega) (by omega),⟨⟨I,I,I,I⟩,I,⟨⟨I,I⟩,⟨I,I⟩,⟨I,I⟩,I⟩,⟨I,I⟩,Go.K.c_spec_l2In _ _ _⟩,I,I,⟨notF (by omega),I⟩,⟨notF (by omega),I⟩,⟨notF (by omega),I⟩,⟨notF (by omega),I⟩,⟨notF (by omega),⟨I,I,I,I⟩,I,⟨⟨I,I⟩,⟨I,I⟩,⟨I,I⟩,I⟩,⟨I,I⟩,Go.K.c_spec_l2In _ _ _⟩,⟨notF (by omega),I⟩,notF (by omega),I,⟨notF (by omega),I⟩,⟨notF (by omega),I⟩,⟨notF (by omega),I⟩,⟨notF (by omega),I⟩,⟨notF (by omega),w64 (by omega) (by omega)⟩,⟨notF (by omega),I⟩,⟨notF (by omega),I⟩,⟨notF (by omega),w64 (by omega) (by omega)⟩,⟨notF (by omega),⟨I,I,I,I⟩,I,⟨⟨I,I⟩,⟨I,I⟩,⟨I,I⟩,I⟩,⟨I,I⟩,Go.K.c_spec_l2In _ _ _⟩,⟨notF (by omega),I⟩,notF (by omega),I,⟨notF (by omega),I⟩,⟨notF (by omega),I⟩,⟨notF (by omega),I⟩,⟨notF (by omega),(by omega),ixl (by assumption)⟩,⟨notF (by omega),I⟩,⟨notF (by omega),I⟩,notF (by omega),I,notT (by omega),notT (by omega),notT (by omega),notT (by omega),notT (by omega),notT (by omega),notT (by omega),I⟩,?_⟩
       refine W.cn ?_
       conv=>whnf
       refine ⟨fun _=>?_,noF (rfl)⟩
       refine g 81 82 [] ?_
       conv=>whnf
       refine ⟨⟨I,I⟩,?_⟩
       refine W.ret ?_
       refine EndsW.rt ?_
       conv=>whnf
       refine ⟨⟨I,I,I⟩,?_,rfl⟩
       exact vbf (jobs_no2 hj1 (fun q=>hE (by have:=(q.2 hz).res; rw [at_get hy0] at this; exact this)))
     ·conv=>whnf
      refine W.sq ?_
      refine g 13 17 [] ?_
      conv=>whnf
      refine ⟨⟨I,I,I,I,I,I⟩,?_⟩
      refine W.cn ?_
      conv=>whnf
      refine ⟨fun _=>?_,noF (by simp_all)⟩
      refine W.skip ?_
      refine W.sq ?_
      refine W.blk ?_
      refine g 17 25 [.x (jobT j)] ?_
      conv=>whnf
      refine ⟨⟨I,I,I,⟨(by omega),ixl (by assumption)⟩,I,I,⟨I,I,I,I⟩,I⟩,?_⟩
      refine W.sq ?_
      refine g 25 27 [] ?_
      conv=>whnf
      refine ⟨⟨I,I,I,I⟩,?_⟩
      refine W.cn ?_
      conv=>whnf
      refine ⟨noT (dF (by omega)),fun _=>?_⟩
      refine W.skip ?_
      refine W.sq ?_
      refine g 27 81 [.i ((Boss.epoch b - (1:Int)) * (1000000:Int) + (1:Int)),.i ((Boss.epoch b - (1:Int)) * (1000000:Int) + Boss.given b),.call (V.b (decide ((Boss.epoch b - (1:Int)) * (1000000:Int) + (1:Int) ≤ Job.lease j ∧ Job.lease j ≤ (Boss.epoch b - (1:Int)) * (1000000:Int) + Boss.given b))) ([[],[],[]]),.b (false),.b (false),.b (false),.b (false),.b (false),.call (V.b (decide ((1:Int) ≤ Job.worker j ∧ Job.worker j ≤ Boss.workers b))) ([[],[],[]]),.b (false),.b (false),.b (false),.b (false),.b (false),.b (false),.b (false),.i (Boss.now b + (1:Int)),.b (false),.b (false),.b (false),.i (Boss.now b + (12:Int)),.b (false),.call (V.b (decide (Boss.now b + (1:Int) ≤ Job.til j ∧ Job.til j ≤ Boss.now b + (12:Int)))) ([[],[],[]]),.b (false),.b (false),.b (true),.b (true),.b (true),.b (true),.b (true),.b (true),.b (true),.b (true),.b (true),.b (true),.b (true),.b (true),.b (true),.b (true)] ?_
      conv=>whnf
      refine ⟨⟨I,I,I,w64 (by omega) (by omega),I,I,I,w64 (by omega) (by omega),⟨⟨I,I,I,I⟩,I,⟨⟨I,I⟩,⟨I,I⟩,⟨I,I⟩,I⟩,⟨I,I⟩,Go.K.c_spec_l2In _ _ _⟩,I,I,⟨notF (by omega),I⟩,⟨notF (by omega),I⟩,⟨notF (by omega),I⟩,⟨notF (by omega),I⟩,⟨notF (by omega),⟨I,I,I,I⟩,I,⟨⟨I,I⟩,⟨I,I⟩,⟨I,I⟩,I⟩,⟨I,I⟩,Go.K.c_spec_l2In _ _ _⟩,⟨notF (by omega),I⟩,notF (by omega),I,⟨notF (by omega),I⟩,⟨notF (by omega),I⟩,⟨notF (by omega),I⟩,⟨notF (by omega),I⟩,⟨notF (by omega),w64 (by omega) (by omega)⟩,⟨notF (by omega),I⟩,⟨notF (by omega),I⟩,⟨notF (by omega),w64 (by omega) (by omega)⟩,⟨notF (by omega),⟨I,I,I,I⟩,I,⟨⟨I,I⟩,⟨I,I⟩,⟨I,I⟩,I⟩,⟨I,I⟩,Go.K.c_spec_l2In _ _ _⟩,⟨notF (by omega),I⟩,notF (by omega),I,notT (by omega),notT (by omega),notT (by omega),notT (by omega),notT (by omega),notT (by omega),notT (by omega),I,rfl,rfl,rfl,rfl,rfl,rfl,rfl,I⟩,?_⟩
      refine W.cn ?_
      conv=>whnf
      refine ⟨fun _=>?_,noF (rfl)⟩
      refine g 81 82 [] ?_
      conv=>whnf
      refine ⟨⟨I,I⟩,?_⟩
      refine W.ret ?_
      refine EndsW.rt ?_
      conv=>whnf
      refine ⟨⟨I,I,I⟩,?_,rfl⟩
      exact vbf (jobs_no2 hj1 (fun q=>hD (q.2 hz).til))
    ·conv=>whnf
     refine W.sq ?_
     refine g 13 17 [] ?_
     conv=>whnf
     refine ⟨⟨I,I,I,I,I,I⟩,?_⟩
     refine W.cn ?_
     conv=>whnf
     refine ⟨fun _=>?_,noF (by simp_all)⟩
     refine W.skip ?_
     refine W.sq ?_
     refine W.blk ?_
     refine g 17 25 [.x (jobT j)] ?_
     conv=>whnf
     refine ⟨⟨I,I,I,⟨(by omega),ixl (by assumption)⟩,I,I,⟨I,I,I,I⟩,I⟩,?_⟩
     refine W.sq ?_
     refine g 25 27 [] ?_
     conv=>whnf
     refine ⟨⟨I,I,I,I⟩,?_⟩
     refine W.cn ?_
     conv=>whnf
     refine ⟨noT (dF (by omega)),fun _=>?_⟩
     refine W.skip ?_
     refine W.sq ?_
     refine g 27 81 [.i ((Boss.epoch b - (1:Int)) * (1000000:Int) + (1:Int)),.i ((Boss.epoch b - (1:Int)) * (1000000:Int) + Boss.given b),.call (V.b (decide ((Boss.epoch b - (1:Int)) * (1000000:Int) + (1:Int) ≤ Job.lease j ∧ Job.lease j ≤ (Boss.epoch b - (1:Int)) * (1000000:Int) + Boss.given b))) ([[],[],[]]),.b (false),.b (false),.b (false),.b (false),.b (false),.call (V.b (decide ((1:Int) ≤ Job.worker j ∧ Job.worker j ≤ Boss.workers b))) ([[],[],[]]),.b (false),.b (false),.b (true),.b (true),.b (true),.b (true),.b (true),.b (true),.b (true),.b (true),.b (true),.b (true),.b (true),.b (true),.b (true),.b (true),.b (true),.b (true),.b (true),.b (true),.b (true),.b (true),.b (true),.b (true),.b (true),.b (true),.b (true)] ?_
     conv=>whnf
     refine ⟨⟨I,I,I,w64 (by omega) (by omega),I,I,I,w64 (by omega) (by omega),⟨⟨I,I,I,I⟩,I,⟨⟨I,I⟩,⟨I,I⟩,⟨I,I⟩,I⟩,⟨I,I⟩,Go.K.c_spec_l2In _ _ _⟩,I,I,⟨notF (by omega),I⟩,⟨notF (by omega),I⟩,⟨notF (by omega),I⟩,⟨notF (by omega),I⟩,⟨notF (by omega),⟨I,I,I,I⟩,I,⟨⟨I,I⟩,⟨I,I⟩,⟨I,I⟩,I⟩,⟨I,I⟩,Go.K.c_spec_l2In _ _ _⟩,⟨notF (by omega),I⟩,notF (by omega),I,notT (by omega),notT (by omega),notT (by omega),notT (by omega),notT (by omega),notT (by omega),notT (by omega),notT (by omega),notT (by omega),notT (by omega),notT (by omega),I,rfl,rfl,rfl,rfl,rfl,rfl,rfl,I,rfl,rfl,rfl,rfl,rfl,rfl,rfl,I⟩,?_⟩
     refine W.cn ?_
     conv=>whnf
     refine ⟨fun _=>?_,noF (rfl)⟩
     refine g 81 82 [] ?_
     conv=>whnf
     refine ⟨⟨I,I⟩,?_⟩
     refine W.ret ?_
     refine EndsW.rt ?_
     conv=>whnf
     refine ⟨⟨I,I,I⟩,?_,rfl⟩
     exact vbf (jobs_no2 hj1 (fun q=>hC (q.2 hz).worker))
   ·conv=>whnf
    refine W.sq ?_
    refine g 13 17 [] ?_
    conv=>whnf
    refine ⟨⟨I,I,I,I,I,I⟩,?_⟩
    refine W.cn ?_
    conv=>whnf
    refine ⟨fun _=>?_,noF (by simp_all)⟩
    refine W.skip ?_
    refine W.sq ?_
    refine W.blk ?_
    refine g 17 25 [.x (jobT j)] ?_
    conv=>whnf
    refine ⟨⟨I,I,I,⟨(by omega),ixl (by assumption)⟩,I,I,⟨I,I,I,I⟩,I⟩,?_⟩
    refine W.sq ?_
    refine g 25 27 [] ?_
    conv=>whnf
    refine ⟨⟨I,I,I,I⟩,?_⟩
    refine W.cn ?_
    conv=>whnf
    refine ⟨noT (dF (by omega)),fun _=>?_⟩
    refine W.skip ?_
    refine W.sq ?_
    refine g 27 81 [.i ((Boss.epoch b - (1:Int)) * (1000000:Int) + (1:Int)),.i ((Boss.epoch b - (1:Int)) * (1000000:Int) + Boss.given b),.call (V.b (decide ((Boss.epoch b - (1:Int)) * (1000000:Int) + (1:Int) ≤ Job.lease j ∧ Job.lease j ≤ (Boss.epoch b - (1:Int)) * (1000000:Int) + Boss.given b))) ([[],[],[]]),.b (true),.b (true),.b (true),.b (true),.b (true),.b (true),.b (true),.b (true),.b (true),.b (true),.b (true),.b (true),.b (true),.b (true),.b (true),.b (true),.b (true),.b (true),.b (true),.b (true),.b (true),.b (true),.b (true),.b (true),.b (true),.b (true),.b (true),.b (true),.b (true),.b (true),.b (true),.b (true)] ?_
    conv=>whnf
    refine ⟨⟨I,I,I,w64 (by omega) (by omega),I,I,I,w64 (by omega) (by omega),⟨⟨I,I,I,I⟩,I,⟨⟨I,I⟩,⟨I,I⟩,⟨I,I⟩,I⟩,⟨I,I⟩,Go.K.c_spec_l2In _ _ _⟩,I,I,notT (by omega),notT (by omega),notT (by omega),notT (by omega),notT (by omega),notT (by omega),notT (by omega),I,rfl,rfl,rfl,rfl,rfl,rfl,rfl,rfl,rfl,rfl,rfl,I,rfl,rfl,rfl,rfl,rfl,rfl,rfl,I,rfl,rfl,rfl,rfl,rfl,rfl,rfl,I⟩,?_⟩
    refine W.cn ?_
    conv=>whnf
    refine ⟨fun _=>?_,noF (rfl)⟩
    refine g 81 82 [] ?_
    conv=>whnf
    refine ⟨⟨I,I⟩,?_⟩
    refine W.ret ?_
    refine EndsW.rt ?_
    conv=>whnf
    refine ⟨⟨I,I,I⟩,?_,rfl⟩
    exact vbf (jobs_no2 hj1 (fun q=>hA (q.2 hz).lease))
 have hjobs:jobsTo b p.tasks b.jobs.length:=by rw [show b.jobs.length = n1 by omega]; exact hc1
 conv=>whnf
 refine W.sq ?_
 refine g 13 17 [] ?_
 conv=>whnf
 refine ⟨⟨I,I,I,I,I,I⟩,?_⟩
 refine W.cn ?_
 conv=>whnf
 refine ⟨noT (by simp_all),fun _=>?_⟩
 refine W.exit ?_
 refine g 5 18 [] ?_
 conv=>whnf
 refine ⟨⟨I,I⟩,?_⟩
 refine W.ret ?_
 refine EndsW.rt ?_
 conv=>whnf
 refine ⟨⟨I,I,I⟩,?_,rfl⟩
 exact vbt (by omega)
theorem c_spec_ValidBoss (b:Boss) (p:Plan) (hp:planWf p) (hl1:b.log.safe.length ≤ 1048576) (hl2:b.log.loose.length ≤ 1048576) (hs:∀ s ∈ b.log.safe ++ b.log.loose,s.size ≤ 281474976710656) (hr:b.results.length ≤ 1048576) (hj:b.jobs.length ≤ 1048576) (hse:b.seats.length ≤ 1048576) (ho:b.owed.length ≤ 1048576):F n_spec_ValidBoss [.val (bossR b),.val (planR p)] (.b (decide (BossOk b p))) [[],[]]:=by
 have cp:=c_spec_CheckPlan p hp
 have ce:=c_spec_l4All b.log hl1 hl2
 have cr:F n_spec_Replay [.val (planR p),.val (.t (strs (b.log.safe ++ b.log.loose)))] (storyO (bossS b p)) [[],[]]:=c_spec_Replay p (b.log.safe ++ b.log.loose) hp hs (by rw [List.length_append]; omega)
 have h310:(bossS b p).code = 0 → b.log.safe.length + b.log.loose.length ≤ 310:=fun q=>by have:=(replay_len (p:=p) (xs:=b.log.safe ++ b.log.loose) q).2.1; rw [List.length_append] at this; exact this
 by_cases hup:b.up = true
 rotate_left
 ·rw [Bool.not_eq_true] at hup
  refine i_spec_ValidBoss ?_
  conv=>whnf
  refine g 0 2 [] ?_
  conv=>whnf
  refine ⟨⟨⟨I,I,I,I,I,I,I,I,I,I,I,I,I⟩,⟨I,I⟩,I,I⟩,?_⟩
  refine W.sq ?_
  by_cases h1:checkPlan (Plan.tasks p) = (0:Int)
  by_cases h2:(1:Int) ≤ Boss.workers b ∧ Boss.workers b ≤ (8:Int)
  by_cases h3:(0:Int) ≤ Boss.now b ∧ Boss.now b ≤ (1000000:Int)
  refine g 21 26 [.call (V.i (checkPlan (Plan.tasks p))) ([[]]),.b (false),.b (false),.b (false),.call (V.b (decide ((1:Int) ≤ Boss.workers b ∧ Boss.workers b ≤ (8:Int)))) ([[],[],[]]),.b (false),.b (false),.b (false),.b (false),.b (false),.call (V.b (decide ((0:Int) ≤ Boss.now b ∧ Boss.now b ≤ (1000000:Int)))) ([[],[],[]]),.b (false),.b (false),.b (false),.b (false),.b (false),.b (false),.b (false),.b (false),.b (false),.b (false),.b (false),.i ((↑(List.length (List.map strT (Log.safe (Boss.log b)))):Int) + (↑(List.length (List.map strT (Log.loose (Boss.log b)))):Int)),.b (false),.b (false)] ?_
  conv=>whnf
  refine ⟨⟨I,⟨⟨I,I⟩,I,⟨⟨I,I⟩,I⟩,⟨I,I⟩,(by assumption)⟩,I,I,⟨notF (by omega),I⟩,⟨notF (by omega),I⟩,⟨notF (by omega),⟨I,I,I,I⟩,I,⟨⟨I,I⟩,⟨I,I⟩,⟨I,I⟩,I⟩,⟨I,I⟩,Go.K.c_spec_l2In _ _ _⟩,⟨notF (by omega),I⟩,notF (by omega),I,⟨notF (by omega),I⟩,⟨notF (by omega),I⟩,⟨notF (by omega),⟨I,I,I,I⟩,I,⟨⟨I,I⟩,⟨I,I⟩,⟨I,I⟩,I⟩,⟨I,I⟩,Go.K.c_spec_l2In _ _ _⟩,⟨notF (by omega),I⟩,notF (by omega),I,⟨notF (by omega),I⟩,⟨notF (by omega),I⟩,⟨notF (by omega),I⟩,⟨notF (by omega),I⟩,⟨notF (by omega),I⟩,⟨notF (by omega),I⟩,⟨notF (by omega),I⟩,⟨notF (by omega),I⟩,⟨notF (by omega),w64 (by simp only [lens]; omega) (by simp only [lens]; omega)⟩,⟨notF (by omega),I⟩,notF (by omega),I⟩,?_⟩
  refine W.cn ?_
  conv=>whnf
  refine ⟨fun h4=>?_,fun h4=>?_⟩
  replace h4:=dt h4
  simp only [List.length_map] at h4
  refine g 27 32 [] ?_
  conv=>whnf
  refine ⟨⟨I,I⟩,?_⟩
  refine W.ret ?_
  refine EndsW.rt ?_
  conv=>whnf
  refine ⟨⟨I,I,I⟩,?_,rfl⟩
  rotate_left 1
  replace h4:=df h4
  simp only [List.length_map] at h4
  refine W.skip ?_
  refine gd 27 32 [[],[],[],[.call (V.own [false] (List.map strT (Log.safe (Boss.log b) ++ Log.loose (Boss.log b)))) ([[]])],[.call (storyO (bossS b p)) ([[],[]])],[],[]] ?_
  conv=>whnf
  refine ⟨⟨I,I,I,⟨⟨I,I⟩,I,⟨⟨I,I,I⟩,I⟩,⟨I,I⟩,(by assumption)⟩,⟨⟨I,I,I⟩,I,⟨⟨I,I⟩,⟨I,I⟩,I⟩,⟨I,I⟩,(by assumption)⟩,I,⟨I,I,I,I⟩,I⟩,by kernel_rfl,?_⟩
  refine W.sq ?_
  refine g 39 45 [] ?_
  conv=>whnf
  refine ⟨⟨I,I,I,I⟩,?_⟩
  refine W.cn ?_
  conv=>whnf
  refine ⟨fun h5=>?_,fun h5=>?_⟩
  replace h5:=ndt h5
  refine g 33 38 [] ?_
  conv=>whnf
  refine ⟨⟨I,I⟩,?_⟩
  refine W.ret ?_
  refine EndsW.rt ?_
  conv=>whnf
  refine ⟨⟨I,I,I⟩,?_,rfl⟩
  rotate_left 1
  replace h5:=ndf h5
  refine W.skip ?_
  refine W.sq ?_
  refine g 33 38 [] ?_
  conv=>whnf
  refine ⟨⟨I,I,I,I⟩,?_⟩
  refine W.cn ?_
  conv=>whnf
  refine ⟨fun _=>?_,noF (nbT (by assumption))⟩
  by_cases h6:(↑(List.length (List.map strT (Log.loose (Boss.log b)))):Int) = (0:Int)
  simp only [List.length_map] at h6
  by_cases h7:Boss.since b = (0:Int)
  by_cases h8:Boss.epoch b = (0:Int)
  by_cases h9:Boss.given b = (0:Int)
  by_cases h10:(↑(List.length (List.map strT (Boss.results b))):Int) = (0:Int)
  simp only [List.length_map] at h10
  by_cases h11:(↑(List.length (List.map jobT (Boss.jobs b))):Int) = (0:Int)
  simp only [List.length_map] at h11
  by_cases h12:(↑(List.length (List.map seatT (Boss.seats b))):Int) = (0:Int)
  simp only [List.length_map] at h12
  refine g 26 93 [.b (true),.b (true),.b (true),.b (true),.b (true),.b (true),.b (true),.b (true),.b (true),.b (true),.b (true),.b (true),.b (true),.b (true),.b (true),.b (true),.b (true),.b (true),.b (true),.b (true),.b (true),.b (true),.b (true),.b (true),.b (true),.b (true),.b (true),.b (true),.b (true),.b (true),.b (true),.b (true)] ?_
  conv=>whnf
  refine ⟨⟨I,I,I,I,I,I,⟨(by simp [*]),I⟩,⟨(by simp [*]),I⟩,⟨(by simp [*]),I⟩,(by simp [*]),I,⟨dT (by omega),I⟩,⟨dT (by omega),I⟩,⟨dT (by omega),I⟩,dT (by omega),I,⟨dT (by omega),I⟩,⟨dT (by omega),I⟩,⟨dT (by omega),I⟩,dT (by omega),I,⟨dT (by omega),I⟩,⟨dT (by omega),I⟩,⟨dT (by omega),I⟩,⟨dT (by omega),I⟩,dT (by omega),I,⟨(by simp [*]),I⟩,⟨(by simp [*]),I⟩,⟨(by simp [*]),I⟩,⟨(by simp [*]),I⟩,(by simp [*]),I,⟨(by simp [*]),I⟩,⟨(by simp [*]),I⟩,⟨(by simp [*]),I⟩,⟨(by simp [*]),I⟩,(by simp [*]),I,⟨(by simp [*]),I⟩,⟨(by simp [*]),I⟩,⟨(by simp [*]),I⟩,⟨(by simp [*]),I⟩,(by simp [*]),I,I⟩,?_⟩
  refine W.ret ?_
  refine EndsW.rt ?_
  conv=>whnf
  refine ⟨⟨I,I,I⟩,?_,rfl⟩
  rotate_left 1
  simp only [List.length_map] at h12
  refine g 26 93 [.b (true),.b (true),.b (true),.b (true),.b (true),.b (true),.b (true),.b (true),.b (true),.b (true),.b (true),.b (true),.b (true),.b (true),.b (true),.b (true),.b (true),.b (true),.b (true),.b (true),.b (true),.b (true),.b (true),.b (true),.b (true),.b (true),.b (true),.b (false),.b (false),.b (false),.b (false),.b (false)] ?_
  conv=>whnf
  refine ⟨⟨I,I,I,I,I,I,⟨(by simp [*]),I⟩,⟨(by simp [*]),I⟩,⟨(by simp [*]),I⟩,(by simp [*]),I,⟨dT (by omega),I⟩,⟨dT (by omega),I⟩,⟨dT (by omega),I⟩,dT (by omega),I,⟨dT (by omega),I⟩,⟨dT (by omega),I⟩,⟨dT (by omega),I⟩,dT (by omega),I,⟨dT (by omega),I⟩,⟨dT (by omega),I⟩,⟨dT (by omega),I⟩,⟨dT (by omega),I⟩,dT (by omega),I,⟨(by simp [*]),I⟩,⟨(by simp [*]),I⟩,⟨(by simp [*]),I⟩,⟨(by simp [*]),I⟩,(by simp [*]),I,⟨(by simp [*]),I⟩,⟨(by simp [*]),I⟩,⟨(by simp [*]),I⟩,⟨(by simp [*]),I⟩,(by simp [*]),I,(by simp_all),(by simp_all),(by simp_all),(by simp_all),(by simp_all),I,I⟩,?_⟩
  refine W.ret ?_
  refine EndsW.rt ?_
  conv=>whnf
  refine ⟨⟨I,I,I⟩,?_,rfl⟩
  rotate_left 1
  simp only [List.length_map] at h11
  refine g 26 93 [.b (true),.b (true),.b (true),.b (true),.b (true),.b (true),.b (true),.b (true),.b (true),.b (true),.b (true),.b (true),.b (true),.b (true),.b (true),.b (true),.b (true),.b (true),.b (true),.b (true),.b (true),.b (true),.b (false),.b (false),.b (false),.b (false),.b (false),.b (false),.b (false),.b (false),.b (false),.b (false)] ?_
  conv=>whnf
  refine ⟨⟨I,I,I,I,I,I,⟨(by simp [*]),I⟩,⟨(by simp [*]),I⟩,⟨(by simp [*]),I⟩,(by simp [*]),I,⟨dT (by omega),I⟩,⟨dT (by omega),I⟩,⟨dT (by omega),I⟩,dT (by omega),I,⟨dT (by omega),I⟩,⟨dT (by omega),I⟩,⟨dT (by omega),I⟩,dT (by omega),I,⟨dT (by omega),I⟩,⟨dT (by omega),I⟩,⟨dT (by omega),I⟩,⟨dT (by omega),I⟩,dT (by omega),I,⟨(by simp [*]),I⟩,⟨(by simp [*]),I⟩,⟨(by simp [*]),I⟩,⟨(by simp [*]),I⟩,(by simp [*]),I,(by simp_all),(by simp_all),(by simp_all),(by simp_all),(by simp_all),I,rfl,rfl,rfl,rfl,rfl,I,I⟩,?_⟩
  refine W.ret ?_
  refine EndsW.rt ?_
  conv=>whnf
  refine ⟨⟨I,I,I⟩,?_,rfl⟩
  rotate_left 1
  simp only [List.length_map] at h10
  refine g 26 93 [.b (true),.b (true),.b (true),.b (true),.b (true),.b (true),.b (true),.b (true),.b (true),.b (true),.b (true),.b (true),.b (true),.b (true),.b (true),.b (true),.b (true),.b (false),.b (false),.b (false),.b (false),.b (false),.b (false),.b (false),.b (false),.b (false),.b (false),.b (false),.b (false),.b (false),.b (false),.b (false)] ?_
  conv=>whnf
  refine ⟨⟨I,I,I,I,I,I,⟨(by simp [*]),I⟩,⟨(by simp [*]),I⟩,⟨(by simp [*]),I⟩,(by simp [*]),I,⟨dT (by omega),I⟩,⟨dT (by omega),I⟩,⟨dT (by omega),I⟩,dT (by omega),I,⟨dT (by omega),I⟩,⟨dT (by omega),I⟩,⟨dT (by omega),I⟩,dT (by omega),I,⟨dT (by omega),I⟩,⟨dT (by omega),I⟩,⟨dT (by omega),I⟩,⟨dT (by omega),I⟩,dT (by omega),I,(by simp_all),(by simp_all),(by simp_all),(by simp_all),(by simp_all),I,rfl,rfl,rfl,rfl,rfl,I,rfl,rfl,rfl,rfl,rfl,I,I⟩,?_⟩
  refine W.ret ?_
  refine EndsW.rt ?_
  conv=>whnf
  refine ⟨⟨I,I,I⟩,?_,rfl⟩
  rotate_left 1
  refine g 26 93 [.b (true),.b (true),.b (true),.b (true),.b (true),.b (true),.b (true),.b (true),.b (true),.b (true),.b (true),.b (true),.b (false),.b (false),.b (false),.b (false),.b (false),.b (false),.b (false),.b (false),.b (false),.b (false),.b (false),.b (false),.b (false),.b (false),.b (false),.b (false),.b (false),.b (false),.b (false),.b (false)] ?_
  conv=>whnf
  refine ⟨⟨I,I,I,I,I,I,⟨(by simp [*]),I⟩,⟨(by simp [*]),I⟩,⟨(by simp [*]),I⟩,(by simp [*]),I,⟨dT (by omega),I⟩,⟨dT (by omega),I⟩,⟨dT (by omega),I⟩,dT (by omega),I,⟨dT (by omega),I⟩,⟨dT (by omega),I⟩,⟨dT (by omega),I⟩,dT (by omega),I,dF (by omega),dF (by omega),dF (by omega),dF (by omega),dF (by omega),I,rfl,rfl,rfl,rfl,rfl,I,rfl,rfl,rfl,rfl,rfl,I,rfl,rfl,rfl,rfl,rfl,I,I⟩,?_⟩
  refine W.ret ?_
  refine EndsW.rt ?_
  conv=>whnf
  refine ⟨⟨I,I,I⟩,?_,rfl⟩
  rotate_left 1
  refine g 26 93 [.b (true),.b (true),.b (true),.b (true),.b (true),.b (true),.b (true),.b (true),.b (false),.b (false),.b (false),.b (false),.b (false),.b (false),.b (false),.b (false),.b (false),.b (false),.b (false),.b (false),.b (false),.b (false),.b (false),.b (false),.b (false),.b (false),.b (false),.b (false),.b (false),.b (false),.b (false),.b (false)] ?_
  conv=>whnf
  refine ⟨⟨I,I,I,I,I,I,⟨(by simp [*]),I⟩,⟨(by simp [*]),I⟩,⟨(by simp [*]),I⟩,(by simp [*]),I,⟨dT (by omega),I⟩,⟨dT (by omega),I⟩,⟨dT (by omega),I⟩,dT (by omega),I,dF (by omega),dF (by omega),dF (by omega),dF (by omega),I,rfl,rfl,rfl,rfl,rfl,I,rfl,rfl,rfl,rfl,rfl,I,rfl,rfl,rfl,rfl,rfl,I,rfl,rfl,rfl,rfl,rfl,I,I⟩,?_⟩
  refine W.ret ?_
  refine EndsW.rt ?_
  conv=>whnf
  refine ⟨⟨I,I,I⟩,?_,rfl⟩
  rotate_left 1
  refine g 26 93 [.b (true),.b (true),.b (true),.b (true),.b (false),.b (false),.b (false),.b (false),.b (false),.b (false),.b (false),.b (false),.b (false),.b (false),.b (false),.b (false),.b (false),.b (false),.b (false),.b (false),.b (false),.b (false),.b (false),.b (false),.b (false),.b (false),.b (false),.b (false),.b (false),.b (false),.b (false),.b (false)] ?_
  conv=>whnf
  refine ⟨⟨I,I,I,I,I,I,⟨(by simp [*]),I⟩,⟨(by simp [*]),I⟩,⟨(by simp [*]),I⟩,(by simp [*]),I,dF (by omega),dF (by omega),dF (by omega),dF (by omega),I,rfl,rfl,rfl,rfl,I,rfl,rfl,rfl,rfl,rfl,I,rfl,rfl,rfl,rfl,rfl,I,rfl,rfl,rfl,rfl,rfl,I,rfl,rfl,rfl,rfl,rfl,I,I⟩,?_⟩
  refine W.ret ?_
  refine EndsW.rt ?_
  conv=>whnf
  refine ⟨⟨I,I,I⟩,?_,rfl⟩
  rotate_left 1
  simp only [List.length_map] at h6
  refine g 26 93 [.b (false),.b (false),.b (false),.b (false),.b (false),.b (false),.b (false),.b (false),.b (false),.b (false),.b (false),.b (false),.b (false),.b (false),.b (false),.b (false),.b (false),.b (false),.b (false),.b (false),.b (false),.b (false),.b (false),.b (false),.b (false),.b (false),.b (false),.b (false),.b (false),.b (false),.b (false),.b (false)] ?_
  conv=>whnf
  refine ⟨⟨I,I,I,I,I,I,(by simp_all),(by simp_all),(by simp_all),(by simp_all),I,rfl,rfl,rfl,rfl,I,rfl,rfl,rfl,rfl,I,rfl,rfl,rfl,rfl,rfl,I,rfl,rfl,rfl,rfl,rfl,I,rfl,rfl,rfl,rfl,rfl,I,rfl,rfl,rfl,rfl,rfl,I,I⟩,?_⟩
  refine W.ret ?_
  refine EndsW.rt ?_
  conv=>whnf
  refine ⟨⟨I,I,I⟩,?_,rfl⟩
  rotate_left 1
  refine g 21 26 [.call (V.i (checkPlan (Plan.tasks p))) ([[]]),.b (false),.b (false),.b (false),.call (V.b (decide ((1:Int) ≤ Boss.workers b ∧ Boss.workers b ≤ (8:Int)))) ([[],[],[]]),.b (false),.b (false),.b (false),.b (false),.b (false),.call (V.b (decide ((0:Int) ≤ Boss.now b ∧ Boss.now b ≤ (1000000:Int)))) ([[],[],[]]),.b (false),.b (false),.b (true),.b (true),.b (true),.b (true),.b (true),.b (true),.b (true),.b (true),.b (true),.b (true),.b (true)] ?_
  conv=>whnf
  refine ⟨⟨I,⟨⟨I,I⟩,I,⟨⟨I,I⟩,I⟩,⟨I,I⟩,(by assumption)⟩,I,I,⟨notF (by omega),I⟩,⟨notF (by omega),I⟩,⟨notF (by omega),⟨I,I,I,I⟩,I,⟨⟨I,I⟩,⟨I,I⟩,⟨I,I⟩,I⟩,⟨I,I⟩,Go.K.c_spec_l2In _ _ _⟩,⟨notF (by omega),I⟩,notF (by omega),I,⟨notF (by omega),I⟩,⟨notF (by omega),I⟩,⟨notF (by omega),⟨I,I,I,I⟩,I,⟨⟨I,I⟩,⟨I,I⟩,⟨I,I⟩,I⟩,⟨I,I⟩,Go.K.c_spec_l2In _ _ _⟩,⟨notF (by omega),I⟩,notF (by omega),I,notT (by omega),notT (by omega),notT (by omega),notT (by omega),notT (by omega),notT (by omega),notT (by omega),notT (by omega),notT (by omega),notT (by omega),notT (by omega),I⟩,?_⟩
  refine W.cn ?_
  conv=>whnf
  refine ⟨fun _=>?_,noF (rfl)⟩
  refine g 27 32 [] ?_
  conv=>whnf
  refine ⟨⟨I,I⟩,?_⟩
  refine W.ret ?_
  refine EndsW.rt ?_
  conv=>whnf
  refine ⟨⟨I,I,I⟩,?_,rfl⟩
  rotate_left 1
  refine g 21 26 [.call (V.i (checkPlan (Plan.tasks p))) ([[]]),.b (false),.b (false),.b (false),.call (V.b (decide ((1:Int) ≤ Boss.workers b ∧ Boss.workers b ≤ (8:Int)))) ([[],[],[]]),.b (false),.b (false),.b (true),.b (true),.b (true),.b (true),.b (true),.b (true),.b (true),.b (true),.b (true),.b (true),.b (true),.b (true),.b (true),.b (true),.b (true),.b (true)] ?_
  conv=>whnf
  refine ⟨⟨I,⟨⟨I,I⟩,I,⟨⟨I,I⟩,I⟩,⟨I,I⟩,(by assumption)⟩,I,I,⟨notF (by omega),I⟩,⟨notF (by omega),I⟩,⟨notF (by omega),⟨I,I,I,I⟩,I,⟨⟨I,I⟩,⟨I,I⟩,⟨I,I⟩,I⟩,⟨I,I⟩,Go.K.c_spec_l2In _ _ _⟩,⟨notF (by omega),I⟩,notF (by omega),I,notT (by omega),notT (by omega),notT (by omega),notT (by omega),notT (by omega),I,rfl,rfl,rfl,rfl,rfl,rfl,rfl,rfl,rfl,rfl,rfl,I⟩,?_⟩
  refine W.cn ?_
  conv=>whnf
  refine ⟨fun _=>?_,noF (rfl)⟩
  refine g 27 32 [] ?_
  conv=>whnf
  refine ⟨⟨I,I⟩,?_⟩
  refine W.ret ?_
  refine EndsW.rt ?_
  conv=>whnf
  refine ⟨⟨I,I,I⟩,?_,rfl⟩
  rotate_left 1
  refine g 21 26 [.call (V.i (checkPlan (Plan.tasks p))) ([[]]),.b (true),.b (true),.b (true),.b (true),.b (true),.b (true),.b (true),.b (true),.b (true),.b (true),.b (true),.b (true),.b (true),.b (true),.b (true),.b (true),.b (true),.b (true),.b (true),.b (true),.b (true)] ?_
  conv=>whnf
  refine ⟨⟨I,⟨⟨I,I⟩,I,⟨⟨I,I⟩,I⟩,⟨I,I⟩,(by assumption)⟩,I,I,notT (by omega),notT (by omega),notT (by omega),notT (by omega),notT (by omega),I,rfl,rfl,rfl,rfl,rfl,I,rfl,rfl,rfl,rfl,rfl,rfl,rfl,rfl,rfl,rfl,rfl,I⟩,?_⟩
  refine W.cn ?_
  conv=>whnf
  refine ⟨fun _=>?_,noF (rfl)⟩
  refine g 27 32 [] ?_
  conv=>whnf
  refine ⟨⟨I,I⟩,?_⟩
  refine W.ret ?_
  refine EndsW.rt ?_
  conv=>whnf
  refine ⟨⟨I,I,I⟩,?_,rfl⟩
  rotate_left 1
  all_goals first
   | exact vbf (fun q=>by have e1:=q.plan; have e2:=q.workers; have e3:=q.now; have e4:=q.code; have e5:=h310 e4; omega)
   | exact vbf (no_down hup fun q=>by have e1:=q.loose; have e2:=q.since; have e3:=q.epoch; have e4:=q.given; have e5:=q.res; have e6:=q.jobs; have e7:=q.seats; omega)
   | (rename_i h8
      simp only [List.length_map]
      by_cases h9:(b.owed.length:Int) = 0
      ·rw [decide_eq_true h9]; exact vbt ⟨by omega,by omega,by omega,by omega,(fun q=>by rw [hup] at q; cases q),fun _=>⟨by omega,by omega,by omega,by omega,by omega,by omega,by omega,by omega⟩⟩
      ·rw [decide_eq_false h9]; exact vbf (no_down hup fun q=>by have e8:=q.owed; omega))
   | skip
 refine i_spec_ValidBoss ?_
 conv=>whnf
 refine g 0 2 [] ?_
 conv=>whnf
 refine ⟨⟨⟨I,I,I,I,I,I,I,I,I,I,I,I,I⟩,⟨I,I⟩,I,I⟩,?_⟩
 refine W.sq ?_
 by_cases h1:checkPlan (Plan.tasks p) = (0:Int)
 by_cases h2:(1:Int) ≤ Boss.workers b ∧ Boss.workers b ≤ (8:Int)
 by_cases h3:(0:Int) ≤ Boss.now b ∧ Boss.now b ≤ (1000000:Int)
 refine g 21 26 [.call (V.i (checkPlan (Plan.tasks p))) ([[]]),.b (false),.b (false),.b (false),.call (V.b (decide ((1:Int) ≤ Boss.workers b ∧ Boss.workers b ≤ (8:Int)))) ([[],[],[]]),.b (false),.b (false),.b (false),.b (false),.b (false),.call (V.b (decide ((0:Int) ≤ Boss.now b ∧ Boss.now b ≤ (1000000:Int)))) ([[],[],[]]),.b (false),.b (false),.b (false),.b (false),.b (false),.b (false),.b (false),.b (false),.b (false),.b (false),.b (false),.i ((↑(List.length (List.map strT (Log.safe (Boss.log b)))):Int) + (↑(List.length (List.map strT (Log.loose (Boss.log b)))):Int)),.b (false),.b (false)] ?_
 conv=>whnf
 refine ⟨⟨I,⟨⟨I,I⟩,I,⟨⟨I,I⟩,I⟩,⟨I,I⟩,(by assumption)⟩,I,I,⟨notF (by omega),I⟩,⟨notF (by omega),I⟩,⟨notF (by omega),⟨I,I,I,I⟩,I,⟨⟨I,I⟩,⟨I,I⟩,⟨I,I⟩,I⟩,⟨I,I⟩,Go.K.c_spec_l2In _ _ _⟩,⟨notF (by omega),I⟩,notF (by omega),I,⟨notF (by omega),I⟩,⟨notF (by omega),I⟩,⟨notF (by omega),⟨I,I,I,I⟩,I,⟨⟨I,I⟩,⟨I,I⟩,⟨I,I⟩,I⟩,⟨I,I⟩,Go.K.c_spec_l2In _ _ _⟩,⟨notF (by omega),I⟩,notF (by omega),I,⟨notF (by omega),I⟩,⟨notF (by omega),I⟩,⟨notF (by omega),I⟩,⟨notF (by omega),I⟩,⟨notF (by omega),I⟩,⟨notF (by omega),I⟩,⟨notF (by omega),I⟩,⟨notF (by omega),I⟩,⟨notF (by omega),w64 (by simp only [lens]; omega) (by simp only [lens]; omega)⟩,⟨notF (by omega),I⟩,notF (by omega),I⟩,?_⟩
 refine W.cn ?_
 conv=>whnf
 refine ⟨fun h4=>?_,fun h4=>?_⟩
 replace h4:=dt h4
 simp only [List.length_map] at h4
 refine g 27 32 [] ?_
 conv=>whnf
 refine ⟨⟨I,I⟩,?_⟩
 refine W.ret ?_
 refine EndsW.rt ?_
 conv=>whnf
 refine ⟨⟨I,I,I⟩,?_,rfl⟩
 rotate_left 1
 replace h4:=df h4
 simp only [List.length_map] at h4
 refine W.skip ?_
 refine gd 27 32 [[],[],[],[.call (V.own [false] (List.map strT (Log.safe (Boss.log b) ++ Log.loose (Boss.log b)))) ([[]])],[.call (storyO (bossS b p)) ([[],[]])],[],[]] ?_
 conv=>whnf
 refine ⟨⟨I,I,I,⟨⟨I,I⟩,I,⟨⟨I,I,I⟩,I⟩,⟨I,I⟩,(by assumption)⟩,⟨⟨I,I,I⟩,I,⟨⟨I,I⟩,⟨I,I⟩,I⟩,⟨I,I⟩,(by assumption)⟩,I,⟨I,I,I,I⟩,I⟩,by kernel_rfl,?_⟩
 refine W.sq ?_
 refine g 39 45 [] ?_
 conv=>whnf
 refine ⟨⟨I,I,I,I⟩,?_⟩
 refine W.cn ?_
 conv=>whnf
 refine ⟨fun h5=>?_,fun h5=>?_⟩
 replace h5:=ndt h5
 refine g 33 38 [] ?_
 conv=>whnf
 refine ⟨⟨I,I⟩,?_⟩
 refine W.ret ?_
 refine EndsW.rt ?_
 conv=>whnf
 refine ⟨⟨I,I,I⟩,?_,rfl⟩
 rotate_left 1
 replace h5:=ndf h5
 refine W.skip ?_
 refine W.sq ?_
 refine g 33 38 [] ?_
 conv=>whnf
 refine ⟨⟨I,I,I,I⟩,?_⟩
 refine W.cn ?_
 conv=>whnf
 refine ⟨noT (nbF (by assumption)),fun _=>?_⟩
 refine W.skip ?_
 refine W.sq ?_
 by_cases h6:Boss.epoch b = Story.epoch (bossS b p)
 by_cases h7:Boss.epoch b < (1:Int)
 refine g 26 114 [.b (false),.b (false),.b (false),.b (false),.b (true),.b (true),.b (true),.b (true),.b (true),.b (true),.b (true),.b (true),.b (true),.b (true)] ?_
 conv=>whnf
 refine ⟨⟨I,I,I,I,I,I,⟨notF (by omega),I⟩,⟨notF (by omega),I⟩,⟨notF (by omega),I⟩,notF (by omega),I,dT (by omega),dT (by omega),dT (by omega),dT (by omega),dT (by omega),I,rfl,rfl,rfl,rfl,rfl,I⟩,?_⟩
 refine W.cn ?_
 conv=>whnf
 refine ⟨fun _=>?_,noF (rfl)⟩
 refine g 13 20 [] ?_
 conv=>whnf
 refine ⟨⟨I,I⟩,?_⟩
 refine W.ret ?_
 refine EndsW.rt ?_
 conv=>whnf
 refine ⟨⟨I,I,I⟩,?_,rfl⟩
 rotate_left 1
 by_cases h8:(0:Int) ≤ Boss.since b ∧ Boss.since b ≤ (1:Int)
 refine g 26 114 [.b (false),.b (false),.b (false),.b (false),.b (false),.b (false),.b (false),.call (V.b (decide ((0:Int) ≤ Boss.since b ∧ Boss.since b ≤ (1:Int)))) ([[],[],[]]),.b (false),.b (false),.b (false),.b (false),.b (false),.call (V.b (decide ((0:Int) ≤ Boss.given b ∧ Boss.given b ≤ (1000000:Int)))) ([[],[],[]]),.b (false),.b (false)] ?_
 conv=>whnf
 refine ⟨⟨I,I,I,I,I,I,⟨notF (by omega),I⟩,⟨notF (by omega),I⟩,⟨notF (by omega),I⟩,notF (by omega),I,⟨dF (by omega),I⟩,⟨dF (by omega),I⟩,⟨dF (by omega),⟨I,I,I,I⟩,I,⟨⟨I,I⟩,⟨I,I⟩,⟨I,I⟩,I⟩,⟨I,I⟩,Go.K.c_spec_l2In _ _ _⟩,⟨dF (by omega),I⟩,dF (by omega),I,⟨notF (by omega),I⟩,⟨notF (by omega),I⟩,⟨notF (by omega),⟨I,I,I,I⟩,I,⟨⟨I,I⟩,⟨I,I⟩,⟨I,I⟩,I⟩,⟨I,I⟩,Go.K.c_spec_l2In _ _ _⟩,⟨notF (by omega),I⟩,notF (by omega),I⟩,?_⟩
 refine W.cn ?_
 conv=>whnf
 refine ⟨fun h9=>?_,fun h9=>?_⟩
 replace h9:=ndt h9
 refine g 13 20 [] ?_
 conv=>whnf
 refine ⟨⟨I,I⟩,?_⟩
 refine W.ret ?_
 refine EndsW.rt ?_
 conv=>whnf
 refine ⟨⟨I,I,I⟩,?_,rfl⟩
 rotate_left 1
 replace h9:=ndf h9
 refine W.skip ?_
 refine g 13 20 [] ?_
 conv=>whnf
 refine ⟨⟨I,I,I,I,I⟩,?_⟩
 refine W.sq ?_
 by_cases h10:(↑(List.length (List.map strT (Boss.results b))):Int) = (↑(List.length (List.map taskT (Plan.tasks p))):Int)
 simp only [List.length_map] at h10
 by_cases h11:(↑(List.length (List.map jobT (Boss.jobs b))):Int) = (↑(List.length (List.map taskT (Plan.tasks p))):Int)
 simp only [List.length_map] at h11
 by_cases h12:(↑(List.length (List.map seatT (Boss.seats b))):Int) = Boss.workers b
 simp only [List.length_map] at h12
 refine g 114 143 [.b (false),.b (false),.b (false),.b (false),.b (false),.b (false),.b (false),.b (false),.b (false),.b (false),.b (false),.b (false),.b (false),.b (false),.b (false),.b (false),.b (false),.b (false)] ?_
 conv=>whnf
 refine ⟨⟨I,I,I,I,I,I,⟨(by simp [*]),I⟩,⟨(by simp [*]),I⟩,⟨(by simp [*]),I⟩,⟨(by simp [*]),I⟩,⟨(by simp [*]),I⟩,(by simp [*]),I,⟨(by simp [*]),I⟩,⟨(by simp [*]),I⟩,⟨(by simp [*]),I⟩,⟨(by simp [*]),I⟩,⟨(by simp [*]),I⟩,⟨(by simp [*]),I⟩,(by simp [*]),I,⟨(by simp [*]),I⟩,⟨(by simp [*]),I⟩,⟨(by simp [*]),I⟩,⟨(by simp [*]),I⟩,(by simp [*]),I⟩,?_⟩
 refine W.cn ?_
 conv=>whnf
 refine ⟨fun h13=>?_,fun h13=>?_⟩
 replace h13:=dt h13
 simp only [List.length_map] at h13
 refine g 11 12 [] ?_
 conv=>whnf
 refine ⟨⟨I,I⟩,?_⟩
 refine W.ret ?_
 refine EndsW.rt ?_
 conv=>whnf
 refine ⟨⟨I,I,I⟩,?_,rfl⟩
 rotate_left 1
 replace h13:=df h13
 simp only [List.length_map] at h13
 refine W.skip ?_
 refine W.sq ?_
 refine g 11 12 [] ?_
 conv=>whnf
 refine ⟨⟨I,I⟩,?_⟩
 refine W.blk ?_
 rotate_left 1
 simp only [List.length_map] at h12
 refine g 114 143 [.b (false),.b (false),.b (false),.b (false),.b (false),.b (false),.b (false),.b (false),.b (false),.b (false),.b (false),.b (false),.b (false),.b (true),.b (true),.b (true),.b (true),.b (true)] ?_
 conv=>whnf
 refine ⟨⟨I,I,I,I,I,I,⟨(by simp [*]),I⟩,⟨(by simp [*]),I⟩,⟨(by simp [*]),I⟩,⟨(by simp [*]),I⟩,⟨(by simp [*]),I⟩,(by simp [*]),I,⟨(by simp [*]),I⟩,⟨(by simp [*]),I⟩,⟨(by simp [*]),I⟩,⟨(by simp [*]),I⟩,⟨(by simp [*]),I⟩,⟨(by simp [*]),I⟩,(by simp [*]),I,(by simp [*]),(by simp [*]),(by simp [*]),(by simp [*]),(by simp [*]),I⟩,?_⟩
 refine W.cn ?_
 conv=>whnf
 refine ⟨fun _=>?_,noF (rfl)⟩
 refine g 11 12 [] ?_
 conv=>whnf
 refine ⟨⟨I,I⟩,?_⟩
 refine W.ret ?_
 refine EndsW.rt ?_
 conv=>whnf
 refine ⟨⟨I,I,I⟩,?_,rfl⟩
 rotate_left 1
 simp only [List.length_map] at h11
 refine g 114 143 [.b (false),.b (false),.b (false),.b (false),.b (false),.b (false),.b (true),.b (true),.b (true),.b (true),.b (true),.b (true),.b (true),.b (true),.b (true),.b (true),.b (true),.b (true)] ?_
 conv=>whnf
 refine ⟨⟨I,I,I,I,I,I,⟨(by simp [*]),I⟩,⟨(by simp [*]),I⟩,⟨(by simp [*]),I⟩,⟨(by simp [*]),I⟩,⟨(by simp [*]),I⟩,(by simp [*]),I,(by simp [*]),(by simp [*]),(by simp [*]),(by simp [*]),(by simp [*]),(by simp [*]),(by simp [*]),I,rfl,rfl,rfl,rfl,rfl,I⟩,?_⟩
 refine W.cn ?_
 conv=>whnf
 refine ⟨fun _=>?_,noF (rfl)⟩
 refine g 11 12 [] ?_
 conv=>whnf
 refine ⟨⟨I,I⟩,?_⟩
 refine W.ret ?_
 refine EndsW.rt ?_
 conv=>whnf
 refine ⟨⟨I,I,I⟩,?_,rfl⟩
 rotate_left 1
 simp only [List.length_map] at h10
 refine g 114 143 [.b (true),.b (true),.b (true),.b (true),.b (true),.b (true),.b (true),.b (true),.b (true),.b (true),.b (true),.b (true),.b (true),.b (true),.b (true),.b (true),.b (true),.b (true)] ?_
 conv=>whnf
 refine ⟨⟨I,I,I,I,I,I,(by simp [*]),(by simp [*]),(by simp [*]),(by simp [*]),(by simp [*]),(by simp [*]),I,rfl,rfl,rfl,rfl,rfl,rfl,rfl,I,rfl,rfl,rfl,rfl,rfl,I⟩,?_⟩
 refine W.cn ?_
 conv=>whnf
 refine ⟨fun _=>?_,noF (rfl)⟩
 refine g 11 12 [] ?_
 conv=>whnf
 refine ⟨⟨I,I⟩,?_⟩
 refine W.ret ?_
 refine EndsW.rt ?_
 conv=>whnf
 refine ⟨⟨I,I,I⟩,?_,rfl⟩
 rotate_left 1
 refine g 26 114 [.b (false),.b (false),.b (false),.b (false),.b (false),.b (false),.b (false),.call (V.b (decide ((0:Int) ≤ Boss.since b ∧ Boss.since b ≤ (1:Int)))) ([[],[],[]]),.b (false),.b (false),.b (true),.b (true),.b (true),.b (true),.b (true)] ?_
 conv=>whnf
 refine ⟨⟨I,I,I,I,I,I,⟨notF (by omega),I⟩,⟨notF (by omega),I⟩,⟨notF (by omega),I⟩,notF (by omega),I,⟨dF (by omega),I⟩,⟨dF (by omega),I⟩,⟨dF (by omega),⟨I,I,I,I⟩,I,⟨⟨I,I⟩,⟨I,I⟩,⟨I,I⟩,I⟩,⟨I,I⟩,Go.K.c_spec_l2In _ _ _⟩,⟨dF (by omega),I⟩,dF (by omega),I,notT (by omega),notT (by omega),notT (by omega),notT (by omega),notT (by omega),I⟩,?_⟩
 refine W.cn ?_
 conv=>whnf
 refine ⟨fun _=>?_,noF (rfl)⟩
 refine g 13 20 [] ?_
 conv=>whnf
 refine ⟨⟨I,I⟩,?_⟩
 refine W.ret ?_
 refine EndsW.rt ?_
 conv=>whnf
 refine ⟨⟨I,I,I⟩,?_,rfl⟩
 rotate_left 1
 refine g 26 114 [.b (true),.b (true),.b (true),.b (true),.b (true),.b (true),.b (true),.b (true),.b (true),.b (true),.b (true),.b (true),.b (true),.b (true)] ?_
 conv=>whnf
 refine ⟨⟨I,I,I,I,I,I,notT (by omega),notT (by omega),notT (by omega),notT (by omega),I,rfl,rfl,rfl,rfl,rfl,I,rfl,rfl,rfl,rfl,rfl,I⟩,?_⟩
 refine W.cn ?_
 conv=>whnf
 refine ⟨fun _=>?_,noF (rfl)⟩
 refine g 13 20 [] ?_
 conv=>whnf
 refine ⟨⟨I,I⟩,?_⟩
 refine W.ret ?_
 refine EndsW.rt ?_
 conv=>whnf
 refine ⟨⟨I,I,I⟩,?_,rfl⟩
 rotate_left 1
 refine g 21 26 [.call (V.i (checkPlan (Plan.tasks p))) ([[]]),.b (false),.b (false),.b (false),.call (V.b (decide ((1:Int) ≤ Boss.workers b ∧ Boss.workers b ≤ (8:Int)))) ([[],[],[]]),.b (false),.b (false),.b (false),.b (false),.b (false),.call (V.b (decide ((0:Int) ≤ Boss.now b ∧ Boss.now b ≤ (1000000:Int)))) ([[],[],[]]),.b (false),.b (false),.b (true),.b (true),.b (true),.b (true),.b (true),.b (true),.b (true),.b (true),.b (true),.b (true),.b (true)] ?_
 conv=>whnf
 refine ⟨⟨I,⟨⟨I,I⟩,I,⟨⟨I,I⟩,I⟩,⟨I,I⟩,(by assumption)⟩,I,I,⟨notF (by omega),I⟩,⟨notF (by omega),I⟩,⟨notF (by omega),⟨I,I,I,I⟩,I,⟨⟨I,I⟩,⟨I,I⟩,⟨I,I⟩,I⟩,⟨I,I⟩,Go.K.c_spec_l2In _ _ _⟩,⟨notF (by omega),I⟩,notF (by omega),I,⟨notF (by omega),I⟩,⟨notF (by omega),I⟩,⟨notF (by omega),⟨I,I,I,I⟩,I,⟨⟨I,I⟩,⟨I,I⟩,⟨I,I⟩,I⟩,⟨I,I⟩,Go.K.c_spec_l2In _ _ _⟩,⟨notF (by omega),I⟩,notF (by omega),I,notT (by omega),notT (by omega),notT (by omega),notT (by omega),notT (by omega),notT (by omega),notT (by omega),notT (by omega),notT (by omega),notT (by omega),notT (by omega),I⟩,?_⟩
 refine W.cn ?_
 conv=>whnf
 refine ⟨fun _=>?_,noF (rfl)⟩
 refine g 27 32 [] ?_
 conv=>whnf
 refine ⟨⟨I,I⟩,?_⟩
 refine W.ret ?_
 refine EndsW.rt ?_
 conv=>whnf
 refine ⟨⟨I,I,I⟩,?_,rfl⟩
 rotate_left 1
 refine g 21 26 [.call (V.i (checkPlan (Plan.tasks p))) ([[]]),.b (false),.b (false),.b (false),.call (V.b (decide ((1:Int) ≤ Boss.workers b ∧ Boss.workers b ≤ (8:Int)))) ([[],[],[]]),.b (false),.b (false),.b (true),.b (true),.b (true),.b (true),.b (true),.b (true),.b (true),.b (true),.b (true),.b (true),.b (true),.b (true),.b (true),.b (true),.b (true),.b (true)] ?_
 conv=>whnf
 refine ⟨⟨I,⟨⟨I,I⟩,I,⟨⟨I,I⟩,I⟩,⟨I,I⟩,(by assumption)⟩,I,I,⟨notF (by omega),I⟩,⟨notF (by omega),I⟩,⟨notF (by omega),⟨I,I,I,I⟩,I,⟨⟨I,I⟩,⟨I,I⟩,⟨I,I⟩,I⟩,⟨I,I⟩,Go.K.c_spec_l2In _ _ _⟩,⟨notF (by omega),I⟩,notF (by omega),I,notT (by omega),notT (by omega),notT (by omega),notT (by omega),notT (by omega),I,rfl,rfl,rfl,rfl,rfl,rfl,rfl,rfl,rfl,rfl,rfl,I⟩,?_⟩
 refine W.cn ?_
 conv=>whnf
 refine ⟨fun _=>?_,noF (rfl)⟩
 refine g 27 32 [] ?_
 conv=>whnf
 refine ⟨⟨I,I⟩,?_⟩
 refine W.ret ?_
 refine EndsW.rt ?_
 conv=>whnf
 refine ⟨⟨I,I,I⟩,?_,rfl⟩
 rotate_left 1
 refine g 21 26 [.call (V.i (checkPlan (Plan.tasks p))) ([[]]),.b (true),.b (true),.b (true),.b (true),.b (true),.b (true),.b (true),.b (true),.b (true),.b (true),.b (true),.b (true),.b (true),.b (true),.b (true),.b (true),.b (true),.b (true),.b (true),.b (true),.b (true)] ?_
 conv=>whnf
 refine ⟨⟨I,⟨⟨I,I⟩,I,⟨⟨I,I⟩,I⟩,⟨I,I⟩,(by assumption)⟩,I,I,notT (by omega),notT (by omega),notT (by omega),notT (by omega),notT (by omega),I,rfl,rfl,rfl,rfl,rfl,I,rfl,rfl,rfl,rfl,rfl,rfl,rfl,rfl,rfl,rfl,rfl,I⟩,?_⟩
 refine W.cn ?_
 conv=>whnf
 refine ⟨fun _=>?_,noF (rfl)⟩
 refine g 27 32 [] ?_
 conv=>whnf
 refine ⟨⟨I,I⟩,?_⟩
 refine W.ret ?_
 refine EndsW.rt ?_
 conv=>whnf
 refine ⟨⟨I,I,I⟩,?_,rfl⟩
 rotate_left 1
 all_goals try first
  | exact vbf (fun q=>by have e1:=q.plan; have e2:=q.workers; have e3:=q.now; have e4:=q.code; have e5:=h310 e4; omega)
  | exact vbf (no_up hup fun q=>by have e1:=q.epoch; have e2:=q.pos; have e3:=q.rlen; have e4:=q.jlen; have e5:=q.slen; have e6:=q.since; have e7:=q.given; have e8:=q.olen; omega)
 have hk:(bossS b p).code = 0:=by assumption
 have hc0:checkPlan p.tasks = 0:=by assumption
 obtain ⟨_,_,hsl,_⟩:=replay_len (p:=p) (xs:=b.log.safe ++ b.log.loose) hk
 obtain ⟨hep1,hep2⟩:=replay_ep (p:=p) (xs:=b.log.safe ++ b.log.loose) hk
 change (bossS b p).results.length = _ at hsl
 change 0 ≤ (bossS b p).epoch at hep1
 change (bossS b p).epoch ≤ 300 at hep2
 have f1:b.epoch = (bossS b p).epoch:=by assumption
 have f2:1 ≤ b.epoch:=by omega
 have f3:b.results.length = p.tasks.length:=by omega
 have f4:b.jobs.length = p.tasks.length:=by omega
 have f5:(b.seats.length:Int) = b.workers:=by omega
 have f6:1 ≤ b.workers ∧ b.workers ≤ 8:=by assumption
 have f7:0 ≤ b.now ∧ b.now ≤ 1000000:=by assumption
 have g2:0 ≤ b.since ∧ b.since ≤ 1:=by omega
 have g3:0 ≤ b.given ∧ b.given ≤ 1000000:=by omega
 have g4:b.owed.length ≤ 2000:=by omega
 have hpl:=(chk_inv hc0).1
 refine W.lp (fun s (n:Nat)=>⟨[(2,s.s 2),(3,s.s 3),(5,s.s 5),(6,s.s 6),(7,.i n),(12,s.s 12),(20,s.s 20)],[(2,[s.c 2 0,s.c 2 1,s.c 2 2,s.c 2 3,s.c 2 4,s.c 2 5,s.c 2 6,s.c 2 7,s.c 2 8,s.c 2 9,s.c 2 10,s.c 2 11]),(3,[s.c 3 0]),(5,[s.c 5 0,s.c 5 1,s.c 5 2])],[]⟩) (fun (n:Nat)=>n ≤ b.results.length ∧ b.results.take n = (bossS b p).results.take n) (fun (n:Nat)=>b.results.length - n) (0) [some 2,some 3,some 5] [] ⟨rfl,⟨rfl,rfl,rfl,rfl,rfl,rfl,rfl,I⟩,⟨⟨rfl,⟨rfl,⟨rfl,⟨rfl,⟨rfl,⟨rfl,⟨rfl,⟨rfl,⟨rfl,⟨rfl,⟨rfl,⟨rfl,⟨rfl,I⟩⟩⟩⟩⟩⟩⟩⟩⟩⟩⟩⟩⟩,⟨⟨rfl,⟨rfl,I⟩⟩,⟨⟨rfl,⟨rfl,⟨rfl,⟨rfl,I⟩⟩⟩⟩,I⟩⟩⟩,I⟩ (by simp) ?_
 rintro n ⟨hn,hc⟩
 conv=>whnf
 refine W.sq ?_
 refine g 144 146 [] ?_
 conv=>whnf
 refine ⟨⟨I,I,I,I⟩,?_⟩
 refine W.cn ?_
 conv=>whnf
 refine ⟨fun h14=>?_,fun h14=>?_⟩
 replace h14:=dt h14
 simp only [List.length_map] at h14
 refine W.skip ?_
 refine W.sq ?_
 refine W.blk ?_
 obtain ⟨y1,hy1⟩:=some_at (xs:=Boss.results b) (n:=n) (by omega)
 obtain ⟨y2,hy2⟩:=some_at (xs:=Story.results (bossS b p)) (n:=n) (by omega)
 refine gd 146 159 [[],[],[],[.x (strT y1)],[],[],[],[],[.n (n)],[.x (strT y2)],[]] ?_
 conv=>whnf
 refine ⟨⟨I,I,I,⟨(by omega),ixl (by assumption)⟩,I,I,I,I,⟨rfl,(by simp only [lens]; omega)⟩,ixl (by assumption),I,I⟩,by kernel_rfl,?_⟩
 refine W.cn ?_
 conv=>whnf
 refine ⟨fun h15=>?_,fun h15=>?_⟩
 replace h15:=ndt h15
 refine g 159 160 [] ?_
 conv=>whnf
 refine ⟨⟨I,I⟩,?_⟩
 refine W.ret ?_
 refine EndsW.rt ?_
 conv=>whnf
 refine ⟨⟨I,I,I⟩,?_,rfl⟩
 rotate_left 1
 replace h15:=ndf h15
 refine W.skip ?_
 refine rg [.i ((↑n:Int) + (1:Int))] ?_
 conv=>whnf
 refine ⟨⟨I,w64 (by omega) (by omega),I,I⟩,?_⟩
 rotate_left 1
 replace h14:=df h14
 simp only [List.length_map] at h14
 refine W.exit ?_
 refine W.sq ?_
 refine g 5 6 [] ?_
 conv=>whnf
 refine ⟨⟨I,I⟩,?_⟩
 refine W.blk ?_
 rotate_left 1
 all_goals try
  exact vbf (no_up hup fun q=>by have e1:=q.res; rw [e1] at hy1; rw [hy1] at hy2; cases hy2; contradiction)
 ·refine ⟨n + 1,[some 2,some 3,some 5],[],⟨rfl,⟨rfl,rfl,rfl,rfl,rfl,rfl,rfl,I⟩,⟨⟨rfl,⟨rfl,⟨rfl,⟨rfl,⟨rfl,⟨rfl,⟨rfl,⟨rfl,⟨rfl,⟨rfl,⟨rfl,⟨rfl,⟨rfl,I⟩⟩⟩⟩⟩⟩⟩⟩⟩⟩⟩⟩⟩,⟨⟨rfl,⟨rfl,I⟩⟩,⟨⟨rfl,⟨rfl,⟨rfl,⟨rfl,I⟩⟩⟩⟩,I⟩⟩⟩,I⟩,?_,?_⟩
  rotate_left 1
  (dsimp only; omega)
  dsimp only
  exact ⟨by omega,take_eq hc hy1 (by rw [hy2]; simp_all)⟩
 have g1:b.results = (bossS b p).results:=by rw [take_all (by omega),take_all (by omega)] at hc; exact hc
 refine W.lp (fun s (n:Nat)=>⟨[(2,s.s 2),(3,s.s 3),(6,s.s 6),(8,.i n),(12,s.s 12),(20,s.s 20)],[(2,[s.c 2 0,s.c 2 1,s.c 2 2,s.c 2 3,s.c 2 4,s.c 2 5,s.c 2 6,s.c 2 7,s.c 2 8,s.c 2 9,s.c 2 10,s.c 2 11]),(3,[s.c 3 0])],[]⟩) (fun (n:Nat)=>n ≤ b.seats.length ∧ ∀ s ∈ b.seats.take n,0 ≤ s.epoch ∧ s.epoch ≤ 300) (fun (n:Nat)=>b.seats.length - n) (0) [some 2,some 3] [] ⟨rfl,⟨rfl,rfl,rfl,rfl,rfl,rfl,I⟩,⟨⟨rfl,⟨rfl,⟨rfl,⟨rfl,⟨rfl,⟨rfl,⟨rfl,⟨rfl,⟨rfl,⟨rfl,⟨rfl,⟨rfl,⟨rfl,I⟩⟩⟩⟩⟩⟩⟩⟩⟩⟩⟩⟩⟩,⟨⟨rfl,⟨rfl,I⟩⟩,I⟩⟩,I⟩ (by simp) ?_
 rintro n2 ⟨hn2,hc2⟩
 by_cases hs2:n2 < b.seats.length
 ·obtain ⟨s,hs1⟩:=some_at hs2
  by_cases hA:0 ≤ s.epoch ∧ s.epoch ≤ 300
  ·conv=>whnf
   refine W.sq ?_
   refine g 160 164 [] ?_
   conv=>whnf
   refine ⟨⟨I,I,I,I,I,I⟩,?_⟩
   refine W.cn ?_
   conv=>whnf
   refine ⟨fun h15=>?_,fun h15=>?_⟩
   replace h15:=dt h15
   simp only [List.length_map] at h15
   refine W.skip ?_
   refine W.sq ?_
   refine W.blk ?_
   refine g 164 174 [.x (seatT s),.call (V.b (decide ((0:Int) ≤ Seat.epoch s ∧ Seat.epoch s ≤ (300:Int)))) ([[],[],[]])] ?_
   conv=>whnf
   refine ⟨⟨I,I,I,⟨(by omega),ixl (by assumption)⟩,I,I,⟨⟨I,I,I,I⟩,I,⟨⟨I,I⟩,⟨I,I⟩,⟨I,I⟩,I⟩,⟨I,I⟩,Go.K.c_spec_l2In _ _ _⟩,I,I⟩,?_⟩
   refine W.cn ?_
   conv=>whnf
   refine ⟨noT (notF (by omega)),fun _=>?_⟩
   refine W.skip ?_
   refine rg [.i ((↑n2:Int) + (1:Int))] ?_
   conv=>whnf
   refine ⟨⟨I,w64 (by omega) (by omega),I,I⟩,?_⟩
   rotate_left 1
   replace h15:=df h15
   simp only [List.length_map] at h15
   omega
   refine ⟨n2 + 1,[some 2,some 3],[],⟨rfl,⟨rfl,rfl,rfl,rfl,rfl,rfl,I⟩,⟨⟨rfl,⟨rfl,⟨rfl,⟨rfl,⟨rfl,⟨rfl,⟨rfl,⟨rfl,⟨rfl,⟨rfl,⟨rfl,⟨rfl,⟨rfl,I⟩⟩⟩⟩⟩⟩⟩⟩⟩⟩⟩⟩⟩,⟨⟨rfl,⟨rfl,I⟩⟩,I⟩⟩,I⟩,?_,?_⟩
   rotate_left 1
   (dsimp only; omega)
   dsimp only
   exact ⟨by omega,mem_step hc2 hs1 hA⟩
  ·conv=>whnf
   refine W.sq ?_
   refine g 160 164 [] ?_
   conv=>whnf
   refine ⟨⟨I,I,I,I,I,I⟩,?_⟩
   refine W.cn ?_
   conv=>whnf
   refine ⟨fun h15=>?_,fun h15=>?_⟩
   replace h15:=dt h15
   simp only [List.length_map] at h15
   refine W.skip ?_
   refine W.sq ?_
   refine W.blk ?_
   refine g 164 174 [.x (seatT s),.call (V.b (decide ((0:Int) ≤ Seat.epoch s ∧ Seat.epoch s ≤ (300:Int)))) ([[],[],[]])] ?_
   conv=>whnf
   refine ⟨⟨I,I,I,⟨(by omega),ixl (by assumption)⟩,I,I,⟨⟨I,I,I,I⟩,I,⟨⟨I,I⟩,⟨I,I⟩,⟨I,I⟩,I⟩,⟨I,I⟩,Go.K.c_spec_l2In _ _ _⟩,I,I⟩,?_⟩
   refine W.cn ?_
   conv=>whnf
   refine ⟨fun _=>?_,noF (notT (by omega))⟩
   refine g 174 175 [] ?_
   conv=>whnf
   refine ⟨⟨I,I⟩,?_⟩
   refine W.ret ?_
   refine EndsW.rt ?_
   conv=>whnf
   refine ⟨⟨I,I,I⟩,?_,rfl⟩
   rotate_left 1
   replace h15:=df h15
   simp only [List.length_map] at h15
   omega
   exact vbf (no_up hup (seats_no hs1 hA))
 have hseats:∀ s ∈ b.seats,0 ≤ s.epoch ∧ s.epoch ≤ 300:=by rw [take_all (by omega)] at hc2; exact hc2
 conv=>whnf
 refine W.sq ?_
 refine g 160 164 [] ?_
 conv=>whnf
 refine ⟨⟨I,I,I,I,I,I⟩,?_⟩
 refine W.cn ?_
 conv=>whnf
 refine ⟨fun h15=>?_,fun h15=>?_⟩
 replace h15:=dt h15
 simp only [List.length_map] at h15
 omega
 replace h15:=df h15
 simp only [List.length_map] at h15
 refine W.exit ?_
 refine W.sq ?_
 refine g 8 9 [] ?_
 conv=>whnf
 refine ⟨⟨I,I⟩,?_⟩
 refine W.blk ?_
 refine W.lp (fun s (n:Nat)=>⟨[(2,s.s 2),(3,s.s 3),(6,s.s 6),(9,.i n),(12,s.s 12),(20,s.s 20)],[(2,[s.c 2 0,s.c 2 1,s.c 2 2,s.c 2 3,s.c 2 4,s.c 2 5,s.c 2 6,s.c 2 7,s.c 2 8,s.c 2 9,s.c 2 10,s.c 2 11]),(3,[s.c 3 0])],[]⟩) (fun (n:Nat)=>n ≤ b.owed.length ∧ ∀ o ∈ b.owed.take n,OwedOk b p.tasks o) (fun (n:Nat)=>b.owed.length - n) (0) [some 2,some 3] [] ⟨rfl,⟨rfl,rfl,rfl,rfl,rfl,rfl,I⟩,⟨⟨rfl,⟨rfl,⟨rfl,⟨rfl,⟨rfl,⟨rfl,⟨rfl,⟨rfl,⟨rfl,⟨rfl,⟨rfl,⟨rfl,⟨rfl,I⟩⟩⟩⟩⟩⟩⟩⟩⟩⟩⟩⟩⟩,⟨⟨rfl,⟨rfl,I⟩⟩,I⟩⟩,I⟩ (by simp) ?_
 rintro n3 ⟨hn3,hc3⟩
 by_cases ho2:n3 < b.owed.length
 ·obtain ⟨o,ho1⟩:=some_at ho2
  by_cases hA:1 ≤ o.worker ∧ o.worker ≤ b.workers
  ·by_cases hB:1 ≤ o.lease ∧ o.lease ≤ 300000000
   ·by_cases hC:0 ≤ o.task ∧ o.task ≤ (p.tasks.length:Int) - 1
    ·obtain ⟨y,hy0⟩:=some_at (xs:=b.results) (n:=o.task.toNat) (by omega)
     by_cases hD:y = emp
     ·conv=>whnf
      refine W.sq ?_
      refine g 175 179 [] ?_
      conv=>whnf
      refine ⟨⟨I,I,I,I,I,I⟩,?_⟩
      refine W.cn ?_
      conv=>whnf
      refine ⟨fun _=>?_,noF (by simp [*])⟩
      refine W.skip ?_
      refine W.sq ?_
      refine W.blk ?_
      refine g 179 187 [.x (owedT o)] ?_
      conv=>whnf
      refine ⟨⟨I,I,I,⟨(by omega),ixl (by assumption)⟩,I,I,⟨I,I,I,I⟩,I⟩,?_⟩
      refine g 187 215 [.call (V.b (decide ((1:Int) ≤ Owed.worker o ∧ Owed.worker o ≤ Boss.workers b))) ([[],[],[]]),.b (false),.b (false),.b (false),.call (V.b (decide ((1:Int) ≤ Owed.lease o ∧ Owed.lease o ≤ (300000000:Int)))) ([[]]),.b (false),.b (false),.b (false),.b (false),.b (false),.b (false),.i ((↑(List.length (List.map taskT (Plan.tasks p))):Int) - (1:Int)),.b (false),.call (V.b (decide ((0:Int) ≤ Owed.task o ∧ Owed.task o ≤ (↑(List.length (List.map taskT (Plan.tasks p))):Int) - (1:Int)))) ([[],[],[]]),.b (false),.b (false),.b (false),.b (false),.b (false),.b (false),.b (false),.x (strT y),.b (false),.b (false),.b (false)] ?_
      conv=>whnf
      refine ⟨⟨I,I,I,I,⟨⟨I,I,I,I⟩,I,⟨⟨I,I⟩,⟨I,I⟩,⟨I,I⟩,I⟩,⟨I,I⟩,Go.K.c_spec_l2In _ _ _⟩,I,I,⟨notF (by omega),I⟩,⟨notF (by omega),I⟩,⟨notF (by omega),⟨I,I⟩,I,⟨⟨I,I⟩,I⟩,⟨I,I⟩,Go.K.c_spec_l2LeaseOk _⟩,⟨notF (by omega),I⟩,notF (by omega),I,⟨notF (by omega),I⟩,⟨notF (by omega),I⟩,⟨notF (by omega),I⟩,⟨notF (by omega),w64 (by simp only [lens]; omega) (by simp only [lens]; omega)⟩,⟨notF (by omega),⟨I,I,I,I⟩,I,⟨⟨I,I⟩,⟨I,I⟩,⟨I,I⟩,I⟩,⟨I,I⟩,Go.K.c_spec_l2In _ _ _⟩,⟨notF (by omega),I⟩,notF (by omega),I,⟨(by simp [*]),I⟩,⟨(by simp [*]),I⟩,⟨(by simp [*]),I⟩,⟨(by simp [*]),I⟩,⟨(by simp [*]),(by omega),ixl (by assumption)⟩,⟨(by simp [*]),I⟩,⟨(by simp [*]),I⟩,(by simp [*]),I⟩,?_⟩
      refine W.cn ?_
      conv=>whnf
      refine ⟨fun _=>?_,noF (dT (by omega))⟩
      refine g 10 11 [] ?_
      conv=>whnf
      refine ⟨⟨I,I⟩,?_⟩
      refine W.ret ?_
      refine EndsW.rt ?_
      conv=>whnf
      refine ⟨⟨I,I,I⟩,?_,rfl⟩
      exact vbf (no_up hup (owed_no ho1 (fun q=>q.res (by rw [at_get' hy0]; exact hD))))
     ·conv=>whnf
      refine W.sq ?_
      refine g 175 179 [] ?_
      conv=>whnf
      refine ⟨⟨I,I,I,I,I,I⟩,?_⟩
      refine W.cn ?_
      conv=>whnf
      refine ⟨fun _=>?_,noF (by simp [*])⟩
      refine W.skip ?_
      refine W.sq ?_
      refine W.blk ?_
      refine g 179 187 [.x (owedT o)] ?_
      conv=>whnf
      refine ⟨⟨I,I,I,⟨(by omega),ixl (by assumption)⟩,I,I,⟨I,I,I,I⟩,I⟩,?_⟩
      refine g 187 215 [.call (V.b (decide ((1:Int) ≤ Owed.worker o ∧ Owed.worker o ≤ Boss.workers b))) ([[],[],[]]),.b (false),.b (false),.b (false),.call (V.b (decide ((1:Int) ≤ Owed.lease o ∧ Owed.lease o ≤ (300000000:Int)))) ([[]]),.b (false),.b (false),.b (false),.b (false),.b (false),.b (false),.i ((↑(List.length (List.map taskT (Plan.tasks p))):Int) - (1:Int)),.b (false),.call (V.b (decide ((0:Int) ≤ Owed.task o ∧ Owed.task o ≤ (↑(List.length (List.map taskT (Plan.tasks p))):Int) - (1:Int)))) ([[],[],[]]),.b (false),.b (false),.b (false),.b (false),.b (false),.b (false),.b (false),.x (strT y),.b (false),.b (false),.b (false)] ?_
      conv=>whnf
      refine ⟨⟨I,I,I,I,⟨⟨I,I,I,I⟩,I,⟨⟨I,I⟩,⟨I,I⟩,⟨I,I⟩,I⟩,⟨I,I⟩,Go.K.c_spec_l2In _ _ _⟩,I,I,⟨notF (by omega),I⟩,⟨notF (by omega),I⟩,⟨notF (by omega),⟨I,I⟩,I,⟨⟨I,I⟩,I⟩,⟨I,I⟩,Go.K.c_spec_l2LeaseOk _⟩,⟨notF (by omega),I⟩,notF (by omega),I,⟨notF (by omega),I⟩,⟨notF (by omega),I⟩,⟨notF (by omega),I⟩,⟨notF (by omega),w64 (by simp only [lens]; omega) (by simp only [lens]; omega)⟩,⟨notF (by omega),⟨I,I,I,I⟩,I,⟨⟨I,I⟩,⟨I,I⟩,⟨I,I⟩,I⟩,⟨I,I⟩,Go.K.c_spec_l2In _ _ _⟩,⟨notF (by omega),I⟩,notF (by omega),I,⟨(by simp [*]),I⟩,⟨(by simp [*]),I⟩,⟨(by simp [*]),I⟩,⟨(by simp [*]),I⟩,⟨(by simp [*]),(by omega),ixl (by assumption)⟩,⟨(by simp [*]),I⟩,⟨(by simp [*]),I⟩,(by simp [*]),I⟩,?_⟩
      refine W.cn ?_
      conv=>whnf
      refine ⟨noT (dF (by omega)),fun _=>?_⟩
      refine W.skip ?_
      refine rg [.i ((↑n3:Int) + (1:Int))] ?_
      conv=>whnf
      refine ⟨⟨I,w64 (by omega) (by omega),I,I⟩,?_⟩
      refine ⟨n3 + 1,[some 2,some 3],[],⟨rfl,⟨rfl,rfl,rfl,rfl,rfl,rfl,I⟩,⟨⟨rfl,⟨rfl,⟨rfl,⟨rfl,⟨rfl,⟨rfl,⟨rfl,⟨rfl,⟨rfl,⟨rfl,⟨rfl,⟨rfl,⟨rfl,I⟩⟩⟩⟩⟩⟩⟩⟩⟩⟩⟩⟩⟩,⟨⟨rfl,⟨rfl,I⟩⟩,I⟩⟩,I⟩,?_,?_⟩
      rotate_left 1
      (dsimp only; omega)
      dsimp only
      exact ⟨by omega,mem_step hc3 ho1 ⟨hA,hB,hC,by rw [at_get' hy0]; exact hD⟩⟩
    ·conv=>whnf
     refine W.sq ?_
     refine g 175 179 [] ?_
     conv=>whnf
     refine ⟨⟨I,I,I,I,I,I⟩,?_⟩
     refine W.cn ?_
     conv=>whnf
     refine ⟨fun _=>?_,noF (by simp [*])⟩
     refine W.skip ?_
     refine W.sq ?_
     refine W.blk ?_
     refine g 179 187 [.x (owedT o)] ?_
     conv=>whnf
     refine ⟨⟨I,I,I,⟨(by omega),ixl (by assumption)⟩,I,I,⟨I,I,I,I⟩,I⟩,?_⟩
     refine g 187 215 [.call (V.b (decide ((1:Int) ≤ Owed.worker o ∧ Owed.worker o ≤ Boss.workers b))) ([[],[],[]]),.b (false),.b (false),.b (false),.call (V.b (decide ((1:Int) ≤ Owed.lease o ∧ Owed.lease o ≤ (300000000:Int)))) ([[]]),.b (false),.b (false),.b (false),.b (false),.b (false),.b (false),.i ((↑(List.length (List.map taskT (Plan.tasks p))):Int) - (1:Int)),.b (false),.call (V.b (decide ((0:Int) ≤ Owed.task o ∧ Owed.task o ≤ (↑(List.length (List.map taskT (Plan.tasks p))):Int) - (1:Int)))) ([[],[],[]]),.b (false),.b (false),.b (true),.b (true),.b (true),.b (true),.b (true),.b (true),.b (true),.b (true)] ?_
     conv=>whnf
     refine ⟨⟨I,I,I,I,⟨⟨I,I,I,I⟩,I,⟨⟨I,I⟩,⟨I,I⟩,⟨I,I⟩,I⟩,⟨I,I⟩,Go.K.c_spec_l2In _ _ _⟩,I,I,⟨notF (by omega),I⟩,⟨notF (by omega),I⟩,⟨notF (by omega),⟨I,I⟩,I,⟨⟨I,I⟩,I⟩,⟨I,I⟩,Go.K.c_spec_l2LeaseOk _⟩,⟨notF (by omega),I⟩,notF (by omega),I,⟨notF (by omega),I⟩,⟨notF (by omega),I⟩,⟨notF (by omega),I⟩,⟨notF (by omega),w64 (by simp only [lens]; omega) (by simp only [lens]; omega)⟩,⟨notF (by omega),⟨I,I,I,I⟩,I,⟨⟨I,I⟩,⟨I,I⟩,⟨I,I⟩,I⟩,⟨I,I⟩,Go.K.c_spec_l2In _ _ _⟩,⟨notF (by omega),I⟩,notF (by omega),I,(by simp [*]),(by simp [*]),(by simp [*]),(by simp [*]),(by simp [*]),(by simp [*]),(by simp [*]),(by simp [*]),I⟩,?_⟩
     refine W.cn ?_
     conv=>whnf
     refine ⟨fun _=>?_,noF (rfl)⟩
     refine g 10 11 [] ?_
     conv=>whnf
     refine ⟨⟨I,I⟩,?_⟩
     refine W.ret ?_
     refine EndsW.rt ?_
     conv=>whnf
     refine ⟨⟨I,I,I⟩,?_,rfl⟩
     exact vbf (no_up hup (owed_no ho1 (fun q=>hC q.task)))
   ·conv=>whnf
    refine W.sq ?_
    refine g 175 179 [] ?_
    conv=>whnf
    refine ⟨⟨I,I,I,I,I,I⟩,?_⟩
    refine W.cn ?_
    conv=>whnf
    refine ⟨fun _=>?_,noF (by simp [*])⟩
    refine W.skip ?_
    refine W.sq ?_
    refine W.blk ?_
    refine g 179 187 [.x (owedT o)] ?_
    conv=>whnf
    refine ⟨⟨I,I,I,⟨(by omega),ixl (by assumption)⟩,I,I,⟨I,I,I,I⟩,I⟩,?_⟩
    refine g 187 215 [.call (V.b (decide ((1:Int) ≤ Owed.worker o ∧ Owed.worker o ≤ Boss.workers b))) ([[],[],[]]),.b (false),.b (false),.b (false),.call (V.b (decide ((1:Int) ≤ Owed.lease o ∧ Owed.lease o ≤ (300000000:Int)))) ([[]]),.b (false),.b (false),.b (true),.b (true),.b (true),.b (true),.b (true),.b (true),.b (true),.b (true),.b (true),.b (true),.b (true),.b (true),.b (true),.b (true),.b (true)] ?_
    conv=>whnf
    refine ⟨⟨I,I,I,I,⟨⟨I,I,I,I⟩,I,⟨⟨I,I⟩,⟨I,I⟩,⟨I,I⟩,I⟩,⟨I,I⟩,Go.K.c_spec_l2In _ _ _⟩,I,I,⟨notF (by omega),I⟩,⟨notF (by omega),I⟩,⟨notF (by omega),⟨I,I⟩,I,⟨⟨I,I⟩,I⟩,⟨I,I⟩,Go.K.c_spec_l2LeaseOk _⟩,⟨notF (by omega),I⟩,notF (by omega),I,notT (by omega),notT (by omega),notT (by omega),notT (by omega),notT (by omega),notT (by omega),notT (by omega),I,rfl,rfl,rfl,rfl,rfl,rfl,rfl,rfl,I⟩,?_⟩
    refine W.cn ?_
    conv=>whnf
    refine ⟨fun _=>?_,noF (rfl)⟩
    refine g 10 11 [] ?_
    conv=>whnf
    refine ⟨⟨I,I⟩,?_⟩
    refine W.ret ?_
    refine EndsW.rt ?_
    conv=>whnf
    refine ⟨⟨I,I,I⟩,?_,rfl⟩
    exact vbf (no_up hup (owed_no ho1 (fun q=>hB q.lease)))
  ·conv=>whnf
   refine W.sq ?_
   refine g 175 179 [] ?_
   conv=>whnf
   refine ⟨⟨I,I,I,I,I,I⟩,?_⟩
   refine W.cn ?_
   conv=>whnf
   refine ⟨fun _=>?_,noF (by simp [*])⟩
   refine W.skip ?_
   refine W.sq ?_
   refine W.blk ?_
   refine g 179 187 [.x (owedT o)] ?_
   conv=>whnf
   refine ⟨⟨I,I,I,⟨(by omega),ixl (by assumption)⟩,I,I,⟨I,I,I,I⟩,I⟩,?_⟩
   refine g 187 215 [.call (V.b (decide ((1:Int) ≤ Owed.worker o ∧ Owed.worker o ≤ Boss.workers b))) ([[],[],[]]),.b (true),.b (true),.b (true),.b (true),.b (true),.b (true),.b (true),.b (true),.b (true),.b (true),.b (true),.b (true),.b (true),.b (true),.b (true),.b (true),.b (true),.b (true),.b (true),.b (true)] ?_
   conv=>whnf
   refine ⟨⟨I,I,I,I,⟨⟨I,I,I,I⟩,I,⟨⟨I,I⟩,⟨I,I⟩,⟨I,I⟩,I⟩,⟨I,I⟩,Go.K.c_spec_l2In _ _ _⟩,I,I,notT (by omega),notT (by omega),notT (by omega),notT (by omega),notT (by omega),I,rfl,rfl,rfl,rfl,rfl,rfl,rfl,I,rfl,rfl,rfl,rfl,rfl,rfl,rfl,rfl,I⟩,?_⟩
   refine W.cn ?_
   conv=>whnf
   refine ⟨fun _=>?_,noF (rfl)⟩
   refine g 10 11 [] ?_
   conv=>whnf
   refine ⟨⟨I,I⟩,?_⟩
   refine W.ret ?_
   refine EndsW.rt ?_
   conv=>whnf
   refine ⟨⟨I,I,I⟩,?_,rfl⟩
   exact vbf (no_up hup (owed_no ho1 (fun q=>hA q.worker)))
 have howed:∀ o ∈ b.owed,OwedOk b p.tasks o:=by rw [take_all (by omega)] at hc3; exact hc3
 have cj:=c_spec_l5JobsOk b p hc0 (by omega) (by omega) f3 f4 f7 g3
 by_cases hjobs:jobsTo b p.tasks b.jobs.length
 ·rw [decide_eq_true hjobs] at cj
  conv=>whnf
  refine W.sq ?_
  refine g 175 179 [] ?_
  conv=>whnf
  refine ⟨⟨I,I,I,I,I,I⟩,?_⟩
  refine W.cn ?_
  conv=>whnf
  refine ⟨noT (by simp [*]),fun _=>?_⟩
  refine W.exit ?_
  refine g 6 219 [.call (V.b true) ([[],[]])] ?_
  conv=>whnf
  refine ⟨⟨I,I,⟨⟨I,I,I⟩,I,⟨⟨I,I,I,I,I,I,I,I,I,I,I,I,I⟩,⟨I,I⟩,I⟩,⟨I,I⟩,(by assumption)⟩,I,I⟩,?_⟩
  refine W.ret ?_
  refine EndsW.rt ?_
  conv=>whnf
  refine ⟨⟨I,I,I⟩,?_,rfl⟩
  exact vbt ⟨hc0,f6,f7,hk,fun _=>⟨f1,f2,f3,f4,f5,g1,g2,g3,g4,hjobs,hseats,howed⟩,fun e=>by rw [hup] at e; cases e⟩
 ·rw [decide_eq_false hjobs] at cj
  conv=>whnf
  refine W.sq ?_
  refine g 175 179 [] ?_
  conv=>whnf
  refine ⟨⟨I,I,I,I,I,I⟩,?_⟩
  refine W.cn ?_
  conv=>whnf
  refine ⟨noT (by simp [*]),fun _=>?_⟩
  refine W.exit ?_
  refine g 6 219 [.call (V.b false) ([[],[]])] ?_
  conv=>whnf
  refine ⟨⟨I,I,⟨⟨I,I,I⟩,I,⟨⟨I,I,I,I,I,I,I,I,I,I,I,I,I⟩,⟨I,I⟩,I⟩,⟨I,I⟩,(by assumption)⟩,I,I⟩,?_⟩
  refine W.ret ?_
  refine EndsW.rt ?_
  conv=>whnf
  refine ⟨⟨I,I,I⟩,?_,rfl⟩
  exact vbf (no_up hup fun q=>hjobs q.jobs)
end Go.K
end
