/- Contracts of functions of the program: what each call answers. -/
import Derived.Test.YtclkoehdmpcggaaParte
section
set_option linter.unusedVariables false
set_option linter.unusedSimpArgs false
set_option maxHeartbeats 4000000
set_option maxRecDepth 20000
open Go Go.Tm Go.Proofs
namespace Go.K
theorem c_laws_szLog (x : Log) (left : Int) (hw : logWf x) (h : left ≤ 1048576) (h0 : 0 ≤ left) : F n_laws_szLog [.val (logR x), .val (.i left)] (.i (if left - logSz x < 0 then -1 else left - logSz x)) [[], []] := by
  have hn0 := totS_nn x.safe
  have hn1 := totS_nn x.loose
  obtain ⟨hw0, hw1, hw2, hw3⟩ := hw
  have hz : logSz x = ((x.safe.length : Int) + totS x.safe) + ((x.loose.length : Int) + totS x.loose) := rfl
  refine i_laws_szLog ?_
  conv => whnf
  refine g 0 1 [] ?_
  conv => whnf
  refine ⟨⟨⟨I, I, I⟩, I, I⟩, ?_⟩
  refine g 5 9 [.call (V.i (if left - (↑(List.length (Log.safe x)) : Int) - totS (Log.safe x) < (0 : Int) then (-1 : Int) else left - (↑(List.length (Log.safe x)) : Int) - totS (Log.safe x))) ([[], []])] ?_
  conv => whnf
  refine ⟨⟨I, I, I, ⟨⟨I, I, I⟩, I, ⟨⟨I, I⟩, ⟨I, I⟩, I⟩, ⟨I, I⟩, Go.K.c_laws_szStringS _ _ (by omega) (by omega) (by omega) (by omega)⟩, I, I⟩, ?_⟩
  refine W.sq ?_
  refine g 9 10 [] ?_
  conv => whnf
  refine ⟨⟨I, I, I⟩, ?_⟩
  refine W.cn ?_
  conv => whnf
  refine ⟨fun h1 => ?_, fun h1 => ?_⟩
  replace h1 := dt h1
  refine g 10 11 [] ?_
  conv => whnf
  refine ⟨⟨I, I⟩, ?_⟩
  refine W.ret ?_
  refine EndsW.rt ?_
  conv => whnf
  refine ⟨⟨I, I, I⟩, ?_, rfl⟩
  exact vi (by omega)
  replace h1 := df h1
  refine W.skip ?_
  refine g 10 15 [.call (V.i (if (if left - (↑(List.length (Log.safe x)) : Int) - totS (Log.safe x) < (0 : Int) then (-1 : Int) else left - (↑(List.length (Log.safe x)) : Int) - totS (Log.safe x)) - (↑(List.length (Log.loose x)) : Int) - totS (Log.loose x) < (0 : Int) then (-1 : Int) else (if left - (↑(List.length (Log.safe x)) : Int) - totS (Log.safe x) < (0 : Int) then (-1 : Int) else left - (↑(List.length (Log.safe x)) : Int) - totS (Log.safe x)) - (↑(List.length (Log.loose x)) : Int) - totS (Log.loose x))) ([[], []])] ?_
  conv => whnf
  refine ⟨⟨I, I, I, ⟨⟨I, I, I⟩, I, ⟨⟨I, I⟩, ⟨I, I⟩, I⟩, ⟨I, I⟩, Go.K.c_laws_szStringS _ _ (by omega) (by omega) (by omega) (by omega)⟩, I, I⟩, ?_⟩
  refine W.sq ?_
  refine g 2 3 [] ?_
  conv => whnf
  refine ⟨⟨I, I, I⟩, ?_⟩
  refine W.cn ?_
  conv => whnf
  refine ⟨fun h2 => ?_, fun h2 => ?_⟩
  replace h2 := dt h2
  refine g 15 17 [] ?_
  conv => whnf
  refine ⟨⟨I, I⟩, ?_⟩
  refine W.ret ?_
  refine EndsW.rt ?_
  conv => whnf
  refine ⟨⟨I, I, I⟩, ?_, rfl⟩
  exact vi (by omega)
  replace h2 := df h2
  refine W.skip ?_
  refine g 15 18 [] ?_
  conv => whnf
  refine ⟨⟨I, I, I⟩, ?_⟩
  refine W.ret ?_
  refine EndsW.rt ?_
  conv => whnf
  refine ⟨⟨I, I, I⟩, ?_, rfl⟩
  exact vi (by omega)
theorem c_laws_szJobS (xs : List Job) (left : Int) (hl : xs.length ≤ 9223372036854775807) (h : left ≤ 1048576) (h0 : 0 ≤ left) : F n_laws_szJobS [.val (.t (.slc jobK (xs.map jobT))), .val (.i left)] (.i (if left - xs.length < 0 then -1 else left - xs.length)) [[], []] := by
  refine i_laws_szJobS ?_
  conv => whnf
  refine g 0 0 [] ?_
  conv => whnf
  refine ⟨⟨I, I⟩, ?_⟩
  refine g 5 9 [.i (left - (↑(List.length (List.map jobT xs)) : Int))] ?_
  conv => whnf
  refine ⟨⟨I, I, I, w64 (by simp only [List.length_map, List.length_append, List.length_set, List.length_replicate, List.length_cons, List.length_nil, List.length_take, List.length_drop, fill_len, fillI_len, List.length_range, bytesT_len]; omega) (by simp only [List.length_map, List.length_append, List.length_set, List.length_replicate, List.length_cons, List.length_nil, List.length_take, List.length_drop, fill_len, fillI_len, List.length_range, bytesT_len]; omega), I, I⟩, ?_⟩
  refine W.sq ?_
  refine g 0 1 [] ?_
  conv => whnf
  refine ⟨⟨I, I, I⟩, ?_⟩
  refine W.cn ?_
  conv => whnf
  refine ⟨fun h1 => ?_, fun h1 => ?_⟩
  replace h1 := dt h1
  simp only [List.length_map] at h1
  refine g 9 11 [] ?_
  conv => whnf
  refine ⟨⟨I, I⟩, ?_⟩
  refine W.ret ?_
  refine EndsW.rt ?_
  conv => whnf
  refine ⟨⟨I, I, I⟩, ?_, rfl⟩
  exact vi (by omega)
  replace h1 := df h1
  simp only [List.length_map] at h1
  refine W.skip ?_
  refine g 9 12 [] ?_
  conv => whnf
  refine ⟨⟨I, I, I⟩, ?_⟩
  refine W.ret ?_
  refine EndsW.rt ?_
  conv => whnf
  refine ⟨⟨I, I, I⟩, ?_, rfl⟩
  (simp [*]; done)
theorem c_laws_szSeatS (xs : List Seat) (left : Int) (hl : xs.length ≤ 9223372036854775807) (h : left ≤ 1048576) (h0 : 0 ≤ left) : F n_laws_szSeatS [.val (.t (.slc seatK (xs.map seatT))), .val (.i left)] (.i (if left - xs.length < 0 then -1 else left - xs.length)) [[], []] := by
  refine i_laws_szSeatS ?_
  conv => whnf
  refine g 0 0 [] ?_
  conv => whnf
  refine ⟨⟨I, I⟩, ?_⟩
  refine g 5 9 [.i (left - (↑(List.length (List.map seatT xs)) : Int))] ?_
  conv => whnf
  refine ⟨⟨I, I, I, w64 (by simp only [List.length_map, List.length_append, List.length_set, List.length_replicate, List.length_cons, List.length_nil, List.length_take, List.length_drop, fill_len, fillI_len, List.length_range, bytesT_len]; omega) (by simp only [List.length_map, List.length_append, List.length_set, List.length_replicate, List.length_cons, List.length_nil, List.length_take, List.length_drop, fill_len, fillI_len, List.length_range, bytesT_len]; omega), I, I⟩, ?_⟩
  refine W.sq ?_
  refine g 0 1 [] ?_
  conv => whnf
  refine ⟨⟨I, I, I⟩, ?_⟩
  refine W.cn ?_
  conv => whnf
  refine ⟨fun h1 => ?_, fun h1 => ?_⟩
  replace h1 := dt h1
  simp only [List.length_map] at h1
  refine g 9 11 [] ?_
  conv => whnf
  refine ⟨⟨I, I⟩, ?_⟩
  refine W.ret ?_
  refine EndsW.rt ?_
  conv => whnf
  refine ⟨⟨I, I, I⟩, ?_, rfl⟩
  exact vi (by omega)
  replace h1 := df h1
  simp only [List.length_map] at h1
  refine W.skip ?_
  refine g 9 12 [] ?_
  conv => whnf
  refine ⟨⟨I, I, I⟩, ?_⟩
  refine W.ret ?_
  refine EndsW.rt ?_
  conv => whnf
  refine ⟨⟨I, I, I⟩, ?_, rfl⟩
  (simp [*]; done)
theorem c_laws_szOwedS (xs : List Owed) (left : Int) (hl : xs.length ≤ 9223372036854775807) (h : left ≤ 1048576) (h0 : 0 ≤ left) : F n_laws_szOwedS [.val (.t (.slc owedK (xs.map owedT))), .val (.i left)] (.i (if left - xs.length < 0 then -1 else left - xs.length)) [[], []] := by
  refine i_laws_szOwedS ?_
  conv => whnf
  refine g 0 0 [] ?_
  conv => whnf
  refine ⟨⟨I, I⟩, ?_⟩
  refine g 5 9 [.i (left - (↑(List.length (List.map owedT xs)) : Int))] ?_
  conv => whnf
  refine ⟨⟨I, I, I, w64 (by simp only [List.length_map, List.length_append, List.length_set, List.length_replicate, List.length_cons, List.length_nil, List.length_take, List.length_drop, fill_len, fillI_len, List.length_range, bytesT_len]; omega) (by simp only [List.length_map, List.length_append, List.length_set, List.length_replicate, List.length_cons, List.length_nil, List.length_take, List.length_drop, fill_len, fillI_len, List.length_range, bytesT_len]; omega), I, I⟩, ?_⟩
  refine W.sq ?_
  refine g 0 1 [] ?_
  conv => whnf
  refine ⟨⟨I, I, I⟩, ?_⟩
  refine W.cn ?_
  conv => whnf
  refine ⟨fun h1 => ?_, fun h1 => ?_⟩
  replace h1 := dt h1
  simp only [List.length_map] at h1
  refine g 9 11 [] ?_
  conv => whnf
  refine ⟨⟨I, I⟩, ?_⟩
  refine W.ret ?_
  refine EndsW.rt ?_
  conv => whnf
  refine ⟨⟨I, I, I⟩, ?_, rfl⟩
  exact vi (by omega)
  replace h1 := df h1
  simp only [List.length_map] at h1
  refine W.skip ?_
  refine g 9 12 [] ?_
  conv => whnf
  refine ⟨⟨I, I, I⟩, ?_⟩
  refine W.ret ?_
  refine EndsW.rt ?_
  conv => whnf
  refine ⟨⟨I, I, I⟩, ?_, rfl⟩
  (simp [*]; done)
theorem c_laws_szBoss (x : Boss) (left : Int) (hw : bossWf x) (h : left ≤ 1048576) (h0 : 0 ≤ left) : F n_laws_szBoss [.val (bossR x), .val (.i left)] (.i (if left - bossSz x < 0 then -1 else left - bossSz x)) [[], []] := by
  have hn0 := logSz_nn x.log
  have hn1 := totS_nn x.results
  obtain ⟨hw0, hw1, hw2, hw3, hw4, hw5⟩ := hw
  have hz : bossSz x = logSz x.log + ((x.results.length : Int) + totS x.results) + ((x.jobs.length : Int)) + ((x.seats.length : Int)) + ((x.owed.length : Int)) := rfl
  refine i_laws_szBoss ?_
  conv => whnf
  refine g 0 1 [] ?_
  conv => whnf
  refine ⟨⟨⟨I, I, I, I, I, I, I, I, I, I, I, I, I⟩, I, I⟩, ?_⟩
  refine g 5 9 [.call (V.i (if left - logSz (Boss.log x) < (0 : Int) then (-1 : Int) else left - logSz (Boss.log x))) ([[], []])] ?_
  conv => whnf
  refine ⟨⟨I, I, I, ⟨⟨I, I, I⟩, I, ⟨⟨I, I, I⟩, ⟨I, I⟩, I⟩, ⟨I, I⟩, Go.K.c_laws_szLog _ _ (by omega) (by omega) (by omega)⟩, I, I⟩, ?_⟩
  refine W.sq ?_
  refine g 9 10 [] ?_
  conv => whnf
  refine ⟨⟨I, I, I⟩, ?_⟩
  refine W.cn ?_
  conv => whnf
  refine ⟨fun h1 => ?_, fun h1 => ?_⟩
  replace h1 := dt h1
  refine g 10 11 [] ?_
  conv => whnf
  refine ⟨⟨I, I⟩, ?_⟩
  refine W.ret ?_
  refine EndsW.rt ?_
  conv => whnf
  refine ⟨⟨I, I, I⟩, ?_, rfl⟩
  exact vi (by omega)
  replace h1 := df h1
  refine W.skip ?_
  refine g 10 15 [.call (V.i (if (if left - logSz (Boss.log x) < (0 : Int) then (-1 : Int) else left - logSz (Boss.log x)) - (↑(List.length (Boss.results x)) : Int) - totS (Boss.results x) < (0 : Int) then (-1 : Int) else (if left - logSz (Boss.log x) < (0 : Int) then (-1 : Int) else left - logSz (Boss.log x)) - (↑(List.length (Boss.results x)) : Int) - totS (Boss.results x))) ([[], []])] ?_
  conv => whnf
  refine ⟨⟨I, I, I, ⟨⟨I, I, I⟩, I, ⟨⟨I, I⟩, ⟨I, I⟩, I⟩, ⟨I, I⟩, Go.K.c_laws_szStringS _ _ (by omega) (by omega) (by omega) (by omega)⟩, I, I⟩, ?_⟩
  refine W.sq ?_
  refine g 15 16 [] ?_
  conv => whnf
  refine ⟨⟨I, I, I⟩, ?_⟩
  refine W.cn ?_
  conv => whnf
  refine ⟨fun h2 => ?_, fun h2 => ?_⟩
  replace h2 := dt h2
  refine g 16 17 [] ?_
  conv => whnf
  refine ⟨⟨I, I⟩, ?_⟩
  refine W.ret ?_
  refine EndsW.rt ?_
  conv => whnf
  refine ⟨⟨I, I, I⟩, ?_, rfl⟩
  exact vi (by omega)
  replace h2 := df h2
  refine W.skip ?_
  refine g 16 21 [.call (V.i (if (if (if left - logSz (Boss.log x) < (0 : Int) then (-1 : Int) else left - logSz (Boss.log x)) - (↑(List.length (Boss.results x)) : Int) - totS (Boss.results x) < (0 : Int) then (-1 : Int) else (if left - logSz (Boss.log x) < (0 : Int) then (-1 : Int) else left - logSz (Boss.log x)) - (↑(List.length (Boss.results x)) : Int) - totS (Boss.results x)) - (↑(List.length (Boss.jobs x)) : Int) < (0 : Int) then (-1 : Int) else (if (if left - logSz (Boss.log x) < (0 : Int) then (-1 : Int) else left - logSz (Boss.log x)) - (↑(List.length (Boss.results x)) : Int) - totS (Boss.results x) < (0 : Int) then (-1 : Int) else (if left - logSz (Boss.log x) < (0 : Int) then (-1 : Int) else left - logSz (Boss.log x)) - (↑(List.length (Boss.results x)) : Int) - totS (Boss.results x)) - (↑(List.length (Boss.jobs x)) : Int))) ([[], []])] ?_
  conv => whnf
  refine ⟨⟨I, I, I, ⟨⟨I, I, I⟩, I, ⟨⟨I, I⟩, ⟨I, I⟩, I⟩, ⟨I, I⟩, Go.K.c_laws_szJobS _ _ (by omega) (by omega) (by omega)⟩, I, I⟩, ?_⟩
  refine W.sq ?_
  refine g 21 22 [] ?_
  conv => whnf
  refine ⟨⟨I, I, I⟩, ?_⟩
  refine W.cn ?_
  conv => whnf
  refine ⟨fun h3 => ?_, fun h3 => ?_⟩
  replace h3 := dt h3
  refine g 22 23 [] ?_
  conv => whnf
  refine ⟨⟨I, I⟩, ?_⟩
  refine W.ret ?_
  refine EndsW.rt ?_
  conv => whnf
  refine ⟨⟨I, I, I⟩, ?_, rfl⟩
  exact vi (by omega)
  replace h3 := df h3
  refine W.skip ?_
  refine g 22 27 [.call (V.i (if (if (if (if left - logSz (Boss.log x) < (0 : Int) then (-1 : Int) else left - logSz (Boss.log x)) - (↑(List.length (Boss.results x)) : Int) - totS (Boss.results x) < (0 : Int) then (-1 : Int) else (if left - logSz (Boss.log x) < (0 : Int) then (-1 : Int) else left - logSz (Boss.log x)) - (↑(List.length (Boss.results x)) : Int) - totS (Boss.results x)) - (↑(List.length (Boss.jobs x)) : Int) < (0 : Int) then (-1 : Int) else (if (if left - logSz (Boss.log x) < (0 : Int) then (-1 : Int) else left - logSz (Boss.log x)) - (↑(List.length (Boss.results x)) : Int) - totS (Boss.results x) < (0 : Int) then (-1 : Int) else (if left - logSz (Boss.log x) < (0 : Int) then (-1 : Int) else left - logSz (Boss.log x)) - (↑(List.length (Boss.results x)) : Int) - totS (Boss.results x)) - (↑(List.length (Boss.jobs x)) : Int)) - (↑(List.length (Boss.seats x)) : Int) < (0 : Int) then (-1 : Int) else (if (if (if left - logSz (Boss.log x) < (0 : Int) then (-1 : Int) else left - logSz (Boss.log x)) - (↑(List.length (Boss.results x)) : Int) - totS (Boss.results x) < (0 : Int) then (-1 : Int) else (if left - logSz (Boss.log x) < (0 : Int) then (-1 : Int) else left - logSz (Boss.log x)) - (↑(List.length (Boss.results x)) : Int) - totS (Boss.results x)) - (↑(List.length (Boss.jobs x)) : Int) < (0 : Int) then (-1 : Int) else (if (if left - logSz (Boss.log x) < (0 : Int) then (-1 : Int) else left - logSz (Boss.log x)) - (↑(List.length (Boss.results x)) : Int) - totS (Boss.results x) < (0 : Int) then (-1 : Int) else (if left - logSz (Boss.log x) < (0 : Int) then (-1 : Int) else left - logSz (Boss.log x)) - (↑(List.length (Boss.results x)) : Int) - totS (Boss.results x)) - (↑(List.length (Boss.jobs x)) : Int)) - (↑(List.length (Boss.seats x)) : Int))) ([[], []])] ?_
  conv => whnf
  refine ⟨⟨I, I, I, ⟨⟨I, I, I⟩, I, ⟨⟨I, I⟩, ⟨I, I⟩, I⟩, ⟨I, I⟩, Go.K.c_laws_szSeatS _ _ (by omega) (by omega) (by omega)⟩, I, I⟩, ?_⟩
  refine W.sq ?_
  refine g 27 28 [] ?_
  conv => whnf
  refine ⟨⟨I, I, I⟩, ?_⟩
  refine W.cn ?_
  conv => whnf
  refine ⟨fun h4 => ?_, fun h4 => ?_⟩
  replace h4 := dt h4
  refine g 28 29 [] ?_
  conv => whnf
  refine ⟨⟨I, I⟩, ?_⟩
  refine W.ret ?_
  refine EndsW.rt ?_
  conv => whnf
  refine ⟨⟨I, I, I⟩, ?_, rfl⟩
  exact vi (by omega)
  replace h4 := df h4
  refine W.skip ?_
  refine g 28 33 [.call (V.i (if (if (if (if (if left - logSz (Boss.log x) < (0 : Int) then (-1 : Int) else left - logSz (Boss.log x)) - (↑(List.length (Boss.results x)) : Int) - totS (Boss.results x) < (0 : Int) then (-1 : Int) else (if left - logSz (Boss.log x) < (0 : Int) then (-1 : Int) else left - logSz (Boss.log x)) - (↑(List.length (Boss.results x)) : Int) - totS (Boss.results x)) - (↑(List.length (Boss.jobs x)) : Int) < (0 : Int) then (-1 : Int) else (if (if left - logSz (Boss.log x) < (0 : Int) then (-1 : Int) else left - logSz (Boss.log x)) - (↑(List.length (Boss.results x)) : Int) - totS (Boss.results x) < (0 : Int) then (-1 : Int) else (if left - logSz (Boss.log x) < (0 : Int) then (-1 : Int) else left - logSz (Boss.log x)) - (↑(List.length (Boss.results x)) : Int) - totS (Boss.results x)) - (↑(List.length (Boss.jobs x)) : Int)) - (↑(List.length (Boss.seats x)) : Int) < (0 : Int) then (-1 : Int) else (if (if (if left - logSz (Boss.log x) < (0 : Int) then (-1 : Int) else left - logSz (Boss.log x)) - (↑(List.length (Boss.results x)) : Int) - totS (Boss.results x) < (0 : Int) then (-1 : Int) else (if left - logSz (Boss.log x) < (0 : Int) then (-1 : Int) else left - logSz (Boss.log x)) - (↑(List.length (Boss.results x)) : Int) - totS (Boss.results x)) - (↑(List.length (Boss.jobs x)) : Int) < (0 : Int) then (-1 : Int) else (if (if left - logSz (Boss.log x) < (0 : Int) then (-1 : Int) else left - logSz (Boss.log x)) - (↑(List.length (Boss.results x)) : Int) - totS (Boss.results x) < (0 : Int) then (-1 : Int) else (if left - logSz (Boss.log x) < (0 : Int) then (-1 : Int) else left - logSz (Boss.log x)) - (↑(List.length (Boss.results x)) : Int) - totS (Boss.results x)) - (↑(List.length (Boss.jobs x)) : Int)) - (↑(List.length (Boss.seats x)) : Int)) - (↑(List.length (Boss.owed x)) : Int) < (0 : Int) then (-1 : Int) else (if (if (if (if left - logSz (Boss.log x) < (0 : Int) then (-1 : Int) else left - logSz (Boss.log x)) - (↑(List.length (Boss.results x)) : Int) - totS (Boss.results x) < (0 : Int) then (-1 : Int) else (if left - logSz (Boss.log x) < (0 : Int) then (-1 : Int) else left - logSz (Boss.log x)) - (↑(List.length (Boss.results x)) : Int) - totS (Boss.results x)) - (↑(List.length (Boss.jobs x)) : Int) < (0 : Int) then (-1 : Int) else (if (if left - logSz (Boss.log x) < (0 : Int) then (-1 : Int) else left - logSz (Boss.log x)) - (↑(List.length (Boss.results x)) : Int) - totS (Boss.results x) < (0 : Int) then (-1 : Int) else (if left - logSz (Boss.log x) < (0 : Int) then (-1 : Int) else left - logSz (Boss.log x)) - (↑(List.length (Boss.results x)) : Int) - totS (Boss.results x)) - (↑(List.length (Boss.jobs x)) : Int)) - (↑(List.length (Boss.seats x)) : Int) < (0 : Int) then (-1 : Int) else (if (if (if left - logSz (Boss.log x) < (0 : Int) then (-1 : Int) else left - logSz (Boss.log x)) - (↑(List.length (Boss.results x)) : Int) - totS (Boss.results x) < (0 : Int) then (-1 : Int) else (if left - logSz (Boss.log x) < (0 : Int) then (-1 : Int) else left - logSz (Boss.log x)) - (↑(List.length (Boss.results x)) : Int) - totS (Boss.results x)) - (↑(List.length (Boss.jobs x)) : Int) < (0 : Int) then (-1 : Int) else (if (if left - logSz (Boss.log x) < (0 : Int) then (-1 : Int) else left - logSz (Boss.log x)) - (↑(List.length (Boss.results x)) : Int) - totS (Boss.results x) < (0 : Int) then (-1 : Int) else (if left - logSz (Boss.log x) < (0 : Int) then (-1 : Int) else left - logSz (Boss.log x)) - (↑(List.length (Boss.results x)) : Int) - totS (Boss.results x)) - (↑(List.length (Boss.jobs x)) : Int)) - (↑(List.length (Boss.seats x)) : Int)) - (↑(List.length (Boss.owed x)) : Int))) ([[], []])] ?_
  conv => whnf
  refine ⟨⟨I, I, I, ⟨⟨I, I, I⟩, I, ⟨⟨I, I⟩, ⟨I, I⟩, I⟩, ⟨I, I⟩, Go.K.c_laws_szOwedS _ _ (by omega) (by omega) (by omega)⟩, I, I⟩, ?_⟩
  refine W.sq ?_
  refine g 2 3 [] ?_
  conv => whnf
  refine ⟨⟨I, I, I⟩, ?_⟩
  refine W.cn ?_
  conv => whnf
  refine ⟨fun h5 => ?_, fun h5 => ?_⟩
  replace h5 := dt h5
  refine g 33 35 [] ?_
  conv => whnf
  refine ⟨⟨I, I⟩, ?_⟩
  refine W.ret ?_
  refine EndsW.rt ?_
  conv => whnf
  refine ⟨⟨I, I, I⟩, ?_, rfl⟩
  exact vi (by omega)
  replace h5 := df h5
  refine W.skip ?_
  refine g 33 36 [] ?_
  conv => whnf
  refine ⟨⟨I, I, I⟩, ?_⟩
  refine W.ret ?_
  refine EndsW.rt ?_
  conv => whnf
  refine ⟨⟨I, I, I⟩, ?_, rfl⟩
  exact vi (by omega)
theorem c_laws_toLog (x : Log) (h : logSz x ≤ 1048576) : F n_laws_toLog [.val (logR x)] (logO x) [[]] := by
  have hn0 := totS_nn x.safe
  have hn1 := totS_nn x.loose
  have hz : logSz x = ((x.safe.length : Int) + totS x.safe) + ((x.loose.length : Int) + totS x.loose) := rfl
  refine i_laws_toLog ?_
  conv => whnf
  refine g 0 1 [] ?_
  conv => whnf
  refine ⟨⟨⟨I, I, I⟩, I, I⟩, ?_⟩
  refine g 0 0 [] ?_
  conv => whnf
  refine ⟨⟨I, I⟩, ?_⟩
  refine g 4 8 [.call (V.own [false] (List.map strT (Log.safe x))) ([[]])] ?_
  conv => whnf
  refine ⟨⟨I, I, ⟨⟨I, I⟩, I, ⟨⟨I, I⟩, I⟩, ⟨I, I⟩, Go.K.c_laws_toStringS _ (by omega)⟩, I, ⟨I, I⟩, I⟩, ?_⟩
  refine g 8 12 [.call (V.own [false] (List.map strT (Log.loose x))) ([[]])] ?_
  conv => whnf
  refine ⟨⟨I, I, ⟨⟨I, I⟩, I, ⟨⟨I, I⟩, I⟩, ⟨I, I⟩, Go.K.c_laws_toStringS _ (by omega)⟩, I, ⟨I, I⟩, I⟩, ?_⟩
  refine g 3 13 [] ?_
  conv => whnf
  refine ⟨⟨I, ⟨I, I, I⟩, I⟩, ?_⟩
  refine W.ret ?_
  refine EndsW.rt ?_
  conv => whnf
  refine ⟨⟨I, I, I, I⟩, ?_, rfl⟩
  rfl
theorem c_laws_toJob (x : Job) : F n_laws_toJob [.val (jobR x)] (jobO x) [[]] := by
  refine i_laws_toJob ?_
  conv => whnf
  refine g 0 1 [] ?_
  conv => whnf
  refine ⟨⟨⟨I, I, I, I⟩, I, I⟩, ?_⟩
  refine g 0 0 [] ?_
  conv => whnf
  refine ⟨⟨I, I⟩, ?_⟩
  refine g 4 7 [] ?_
  conv => whnf
  refine ⟨⟨I, I, I, ⟨I, I⟩, I⟩, ?_⟩
  refine g 7 10 [] ?_
  conv => whnf
  refine ⟨⟨I, I, I, ⟨I, I⟩, I⟩, ?_⟩
  refine g 10 13 [] ?_
  conv => whnf
  refine ⟨⟨I, I, I, ⟨I, I⟩, I⟩, ?_⟩
  refine g 3 14 [] ?_
  conv => whnf
  refine ⟨⟨I, ⟨I, I, I, I⟩, I⟩, ?_⟩
  refine W.ret ?_
  refine EndsW.rt ?_
  conv => whnf
  refine ⟨⟨I, I, I, I, I⟩, ?_, rfl⟩
  rfl
theorem c_laws_toJobS (xs : List Job) (h : (xs.length : Int) ≤ 1048576) : F n_laws_toJobS [.val (.t (.slc jobK (xs.map jobT)))] (.own jobK (xs.map jobT)) [[]] := by
  refine i_laws_toJobS ?_
  conv => whnf
  refine g 0 0 [] ?_
  conv => whnf
  refine ⟨⟨I, I⟩, ?_⟩
  refine g 5 8 [.n (List.length (List.map jobT xs))] ?_
  conv => whnf
  refine ⟨⟨I, I, ⟨rfl, rfl, (by simp only [List.length_map, List.length_append, List.length_set, List.length_replicate, List.length_cons, List.length_nil, List.length_take, List.length_drop, fill_len, fillI_len, List.length_range, bytesT_len]; omega)⟩, I, I⟩, ?_⟩
  refine W.sq ?_
  refine g 0 0 [] ?_
  conv => whnf
  refine ⟨⟨I, I⟩, ?_⟩
  refine W.blk ?_
  refine W.lp (fun s (n : Nat) => ⟨[(0, s.s 0), (2, s.s 2), (3, s.s 3), (4, .i n)], [(7, [.own jobK (fill jobT (jobT noJob) xs n)])], []⟩) (fun (n : Nat) => n ≤ xs.length) (fun (n : Nat) => xs.length - n) (0) [some 7] [] ⟨rfl, ⟨rfl, rfl, rfl, rfl, I⟩, ⟨⟨rfl, ⟨(congrArg (V.own _) (fill_zero' (by simp) rfl)), I⟩⟩, I⟩, I⟩ (by omega) ?_
  intro n hn
  conv => whnf
  refine W.sq ?_
  refine g 8 11 [] ?_
  conv => whnf
  refine ⟨⟨I, I, I, I, I⟩, ?_⟩
  refine W.cn ?_
  conv => whnf
  refine ⟨fun h1 => ?_, fun h1 => ?_⟩
  replace h1 := dt h1
  simp only [List.length_map] at h1
  refine W.skip ?_
  refine W.sq ?_
  refine W.blk ?_
  obtain ⟨y1, hy1⟩ := some_at (xs := xs) (n := n) (by omega)
  refine rg [.x (jobT y1), .call (jobO y1) ([[]]), .n (n), .x (jobT noJob)] ?_
  conv => whnf
  refine ⟨⟨I, I, I, I, ⟨(by omega), ixl (by assumption)⟩, I, ⟨⟨I, I⟩, I, ⟨⟨I, I, I, I⟩, I⟩, ⟨I, I⟩, Go.K.c_laws_toJob _⟩, ⟨rfl, (by simp only [List.length_map, List.length_append, List.length_set, List.length_replicate, List.length_cons, List.length_nil, List.length_take, List.length_drop, fill_len, fillI_len, List.length_range, bytesT_len]; omega)⟩, ⟨⟨I, I, I, I⟩, fill_get (by omega)⟩, I⟩, ?_⟩
  refine rg [.i ((↑n : Int) + (1 : Int))] ?_
  conv => whnf
  refine ⟨⟨I, w64 (by omega) (by omega), I, I⟩, ?_⟩
  rotate_left 1
  replace h1 := df h1
  simp only [List.length_map] at h1
  refine W.exit ?_
  refine g 3 23 [] ?_
  conv => whnf
  refine ⟨⟨I, I, I⟩, ?_⟩
  refine W.ret ?_
  refine EndsW.rt ?_
  conv => whnf
  refine ⟨⟨I, I, I⟩, ?_, rfl⟩
  rotate_left 1
  · refine ⟨n + 1, [some 7], [], ⟨rfl, ⟨rfl, rfl, rfl, rfl, I⟩, ⟨⟨rfl, ⟨(congrArg (V.own _) (fill_set (by assumption))), I⟩⟩, I⟩, I⟩, ?_, ?_⟩
    rotate_left 1
    (dsimp only; omega)
    dsimp only
    omega
  · have e : fill jobT (jobT noJob) xs n = xs.map jobT := fill_all _ _ _ (by omega)
    rw [← e]
theorem c_laws_toSeat (x : Seat) : F n_laws_toSeat [.val (seatR x)] (seatO x) [[]] := by
  refine i_laws_toSeat ?_
  conv => whnf
  refine g 0 1 [] ?_
  conv => whnf
  refine ⟨⟨⟨I, I, I⟩, I, I⟩, ?_⟩
  refine g 0 0 [] ?_
  conv => whnf
  refine ⟨⟨I, I⟩, ?_⟩
  refine g 4 7 [] ?_
  conv => whnf
  refine ⟨⟨I, I, I, ⟨I, I⟩, I⟩, ?_⟩
  refine g 7 10 [] ?_
  conv => whnf
  refine ⟨⟨I, I, I, ⟨I, I⟩, I⟩, ?_⟩
  refine g 3 11 [] ?_
  conv => whnf
  refine ⟨⟨I, ⟨I, I, I⟩, I⟩, ?_⟩
  refine W.ret ?_
  refine EndsW.rt ?_
  conv => whnf
  refine ⟨⟨I, I, I, I⟩, ?_, rfl⟩
  rfl
theorem c_laws_toSeatS (xs : List Seat) (h : (xs.length : Int) ≤ 1048576) : F n_laws_toSeatS [.val (.t (.slc seatK (xs.map seatT)))] (.own seatK (xs.map seatT)) [[]] := by
  refine i_laws_toSeatS ?_
  conv => whnf
  refine g 0 0 [] ?_
  conv => whnf
  refine ⟨⟨I, I⟩, ?_⟩
  refine g 5 8 [.n (List.length (List.map seatT xs))] ?_
  conv => whnf
  refine ⟨⟨I, I, ⟨rfl, rfl, (by simp only [List.length_map, List.length_append, List.length_set, List.length_replicate, List.length_cons, List.length_nil, List.length_take, List.length_drop, fill_len, fillI_len, List.length_range, bytesT_len]; omega)⟩, I, I⟩, ?_⟩
  refine W.sq ?_
  refine g 0 0 [] ?_
  conv => whnf
  refine ⟨⟨I, I⟩, ?_⟩
  refine W.blk ?_
  refine W.lp (fun s (n : Nat) => ⟨[(0, s.s 0), (2, s.s 2), (3, s.s 3), (4, .i n)], [(7, [.own seatK (fill seatT (seatT noSeat) xs n)])], []⟩) (fun (n : Nat) => n ≤ xs.length) (fun (n : Nat) => xs.length - n) (0) [some 7] [] ⟨rfl, ⟨rfl, rfl, rfl, rfl, I⟩, ⟨⟨rfl, ⟨(congrArg (V.own _) (fill_zero' (by simp) rfl)), I⟩⟩, I⟩, I⟩ (by omega) ?_
  intro n hn
  conv => whnf
  refine W.sq ?_
  refine g 8 11 [] ?_
  conv => whnf
  refine ⟨⟨I, I, I, I, I⟩, ?_⟩
  refine W.cn ?_
  conv => whnf
  refine ⟨fun h1 => ?_, fun h1 => ?_⟩
  replace h1 := dt h1
  simp only [List.length_map] at h1
  refine W.skip ?_
  refine W.sq ?_
  refine W.blk ?_
  obtain ⟨y1, hy1⟩ := some_at (xs := xs) (n := n) (by omega)
  refine rg [.x (seatT y1), .call (seatO y1) ([[]]), .n (n), .x (seatT noSeat)] ?_
  conv => whnf
  refine ⟨⟨I, I, I, I, ⟨(by omega), ixl (by assumption)⟩, I, ⟨⟨I, I⟩, I, ⟨⟨I, I, I⟩, I⟩, ⟨I, I⟩, Go.K.c_laws_toSeat _⟩, ⟨rfl, (by simp only [List.length_map, List.length_append, List.length_set, List.length_replicate, List.length_cons, List.length_nil, List.length_take, List.length_drop, fill_len, fillI_len, List.length_range, bytesT_len]; omega)⟩, ⟨⟨I, I, I⟩, fill_get (by omega)⟩, I⟩, ?_⟩
  refine rg [.i ((↑n : Int) + (1 : Int))] ?_
  conv => whnf
  refine ⟨⟨I, w64 (by omega) (by omega), I, I⟩, ?_⟩
  rotate_left 1
  replace h1 := df h1
  simp only [List.length_map] at h1
  refine W.exit ?_
  refine g 3 23 [] ?_
  conv => whnf
  refine ⟨⟨I, I, I⟩, ?_⟩
  refine W.ret ?_
  refine EndsW.rt ?_
  conv => whnf
  refine ⟨⟨I, I, I⟩, ?_, rfl⟩
  rotate_left 1
  · refine ⟨n + 1, [some 7], [], ⟨rfl, ⟨rfl, rfl, rfl, rfl, I⟩, ⟨⟨rfl, ⟨(congrArg (V.own _) (fill_set (by assumption))), I⟩⟩, I⟩, I⟩, ?_, ?_⟩
    rotate_left 1
    (dsimp only; omega)
    dsimp only
    omega
  · have e : fill seatT (seatT noSeat) xs n = xs.map seatT := fill_all _ _ _ (by omega)
    rw [← e]
theorem c_laws_toOwed (x : Owed) : F n_laws_toOwed [.val (owedR x)] (owedO x) [[]] := by
  refine i_laws_toOwed ?_
  conv => whnf
  refine g 0 1 [] ?_
  conv => whnf
  refine ⟨⟨⟨I, I, I, I⟩, I, I⟩, ?_⟩
  refine g 0 0 [] ?_
  conv => whnf
  refine ⟨⟨I, I⟩, ?_⟩
  refine g 4 7 [] ?_
  conv => whnf
  refine ⟨⟨I, I, I, ⟨I, I⟩, I⟩, ?_⟩
  refine g 7 10 [] ?_
  conv => whnf
  refine ⟨⟨I, I, I, ⟨I, I⟩, I⟩, ?_⟩
  refine g 10 13 [] ?_
  conv => whnf
  refine ⟨⟨I, I, I, ⟨I, I⟩, I⟩, ?_⟩
  refine g 3 14 [] ?_
  conv => whnf
  refine ⟨⟨I, ⟨I, I, I, I⟩, I⟩, ?_⟩
  refine W.ret ?_
  refine EndsW.rt ?_
  conv => whnf
  refine ⟨⟨I, I, I, I, I⟩, ?_, rfl⟩
  rfl
theorem c_laws_toOwedS (xs : List Owed) (h : (xs.length : Int) ≤ 1048576) : F n_laws_toOwedS [.val (.t (.slc owedK (xs.map owedT)))] (.own owedK (xs.map owedT)) [[]] := by
  refine i_laws_toOwedS ?_
  conv => whnf
  refine g 0 0 [] ?_
  conv => whnf
  refine ⟨⟨I, I⟩, ?_⟩
  refine g 5 8 [.n (List.length (List.map owedT xs))] ?_
  conv => whnf
  refine ⟨⟨I, I, ⟨rfl, rfl, (by simp only [List.length_map, List.length_append, List.length_set, List.length_replicate, List.length_cons, List.length_nil, List.length_take, List.length_drop, fill_len, fillI_len, List.length_range, bytesT_len]; omega)⟩, I, I⟩, ?_⟩
  refine W.sq ?_
  refine g 0 0 [] ?_
  conv => whnf
  refine ⟨⟨I, I⟩, ?_⟩
  refine W.blk ?_
  refine W.lp (fun s (n : Nat) => ⟨[(0, s.s 0), (2, s.s 2), (3, s.s 3), (4, .i n)], [(7, [.own owedK (fill owedT (owedT noOwed) xs n)])], []⟩) (fun (n : Nat) => n ≤ xs.length) (fun (n : Nat) => xs.length - n) (0) [some 7] [] ⟨rfl, ⟨rfl, rfl, rfl, rfl, I⟩, ⟨⟨rfl, ⟨(congrArg (V.own _) (fill_zero' (by simp) rfl)), I⟩⟩, I⟩, I⟩ (by omega) ?_
  intro n hn
  conv => whnf
  refine W.sq ?_
  refine g 8 11 [] ?_
  conv => whnf
  refine ⟨⟨I, I, I, I, I⟩, ?_⟩
  refine W.cn ?_
  conv => whnf
  refine ⟨fun h1 => ?_, fun h1 => ?_⟩
  replace h1 := dt h1
  simp only [List.length_map] at h1
  refine W.skip ?_
  refine W.sq ?_
  refine W.blk ?_
  obtain ⟨y1, hy1⟩ := some_at (xs := xs) (n := n) (by omega)
  refine rg [.x (owedT y1), .call (owedO y1) ([[]]), .n (n), .x (owedT noOwed)] ?_
  conv => whnf
  refine ⟨⟨I, I, I, I, ⟨(by omega), ixl (by assumption)⟩, I, ⟨⟨I, I⟩, I, ⟨⟨I, I, I, I⟩, I⟩, ⟨I, I⟩, Go.K.c_laws_toOwed _⟩, ⟨rfl, (by simp only [List.length_map, List.length_append, List.length_set, List.length_replicate, List.length_cons, List.length_nil, List.length_take, List.length_drop, fill_len, fillI_len, List.length_range, bytesT_len]; omega)⟩, ⟨⟨I, I, I, I⟩, fill_get (by omega)⟩, I⟩, ?_⟩
  refine rg [.i ((↑n : Int) + (1 : Int))] ?_
  conv => whnf
  refine ⟨⟨I, w64 (by omega) (by omega), I, I⟩, ?_⟩
  rotate_left 1
  replace h1 := df h1
  simp only [List.length_map] at h1
  refine W.exit ?_
  refine g 3 23 [] ?_
  conv => whnf
  refine ⟨⟨I, I, I⟩, ?_⟩
  refine W.ret ?_
  refine EndsW.rt ?_
  conv => whnf
  refine ⟨⟨I, I, I⟩, ?_, rfl⟩
  rotate_left 1
  · refine ⟨n + 1, [some 7], [], ⟨rfl, ⟨rfl, rfl, rfl, rfl, I⟩, ⟨⟨rfl, ⟨(congrArg (V.own _) (fill_set (by assumption))), I⟩⟩, I⟩, I⟩, ?_, ?_⟩
    rotate_left 1
    (dsimp only; omega)
    dsimp only
    omega
  · have e : fill owedT (owedT noOwed) xs n = xs.map owedT := fill_all _ _ _ (by omega)
    rw [← e]
theorem c_laws_toBoss (x : Boss) (h : bossSz x ≤ 1048576) : F n_laws_toBoss [.val (bossR x)] (bossO x) [[]] := by
  have hn0 := logSz_nn x.log
  have hn1 := totS_nn x.results
  have hz : bossSz x = logSz x.log + ((x.results.length : Int) + totS x.results) + ((x.jobs.length : Int)) + ((x.seats.length : Int)) + ((x.owed.length : Int)) := rfl
  refine i_laws_toBoss ?_
  conv => whnf
  refine g 0 1 [] ?_
  conv => whnf
  refine ⟨⟨⟨I, I, I, I, I, I, I, I, I, I, I, I, I⟩, I, I⟩, ?_⟩
  refine g 0 0 [] ?_
  conv => whnf
  refine ⟨⟨I, I⟩, ?_⟩
  refine g 4 7 [] ?_
  conv => whnf
  refine ⟨⟨I, I, I, ⟨I, I⟩, I⟩, ?_⟩
  refine g 7 10 [] ?_
  conv => whnf
  refine ⟨⟨I, I, I, ⟨I, I⟩, I⟩, ?_⟩
  refine g 10 13 [] ?_
  conv => whnf
  refine ⟨⟨I, I, I, ⟨I, I⟩, I⟩, ?_⟩
  refine g 13 16 [] ?_
  conv => whnf
  refine ⟨⟨I, I, I, ⟨I, I⟩, I⟩, ?_⟩
  refine g 16 19 [] ?_
  conv => whnf
  refine ⟨⟨I, I, I, ⟨I, I⟩, I⟩, ?_⟩
  refine g 19 22 [] ?_
  conv => whnf
  refine ⟨⟨I, I, I, ⟨I, I⟩, I⟩, ?_⟩
  refine g 22 26 [.call (logO (Boss.log x)) ([[]])] ?_
  conv => whnf
  refine ⟨⟨I, I, ⟨⟨I, I⟩, I, ⟨⟨I, I, I⟩, I⟩, ⟨I, I⟩, Go.K.c_laws_toLog _ (by omega)⟩, I, ⟨I, I, I⟩, I⟩, ?_⟩
  refine g 26 30 [.call (V.own [false] (List.map strT (Boss.results x))) ([[]])] ?_
  conv => whnf
  refine ⟨⟨I, I, ⟨⟨I, I⟩, I, ⟨⟨I, I⟩, I⟩, ⟨I, I⟩, Go.K.c_laws_toStringS _ (by omega)⟩, I, ⟨I, I⟩, I⟩, ?_⟩
  refine g 30 34 [.call (V.own jobK (List.map jobT (Boss.jobs x))) ([[]])] ?_
  conv => whnf
  refine ⟨⟨I, I, ⟨⟨I, I⟩, I, ⟨⟨I, I⟩, I⟩, ⟨I, I⟩, Go.K.c_laws_toJobS _ (by omega)⟩, I, ⟨I, I⟩, I⟩, ?_⟩
  refine g 34 38 [.call (V.own seatK (List.map seatT (Boss.seats x))) ([[]])] ?_
  conv => whnf
  refine ⟨⟨I, I, ⟨⟨I, I⟩, I, ⟨⟨I, I⟩, I⟩, ⟨I, I⟩, Go.K.c_laws_toSeatS _ (by omega)⟩, I, ⟨I, I⟩, I⟩, ?_⟩
  refine g 38 40 [.call (V.own owedK (List.map owedT (Boss.owed x))) ([[]])] ?_
  conv => whnf
  refine ⟨⟨I, I, ⟨⟨I, I⟩, I, ⟨⟨I, I⟩, I⟩, ⟨I, I⟩, Go.K.c_laws_toOwedS _ (by omega)⟩, I, ⟨I, I⟩, I⟩, ?_⟩
  refine g 41 43 [] ?_
  conv => whnf
  refine ⟨⟨I, ⟨I, I, I, I, I, I, I, I, I, I, I, I, I⟩, I⟩, ?_⟩
  refine W.ret ?_
  refine EndsW.rt ?_
  conv => whnf
  refine ⟨⟨I, I, I, I, I, I, I, I, I, I, I, I, I, I⟩, ?_, rfl⟩
  rfl
def logLen (a : Log) : Prop := a.safe.length ≤ 9223372036854775806 ∧ a.loose.length ≤ 9223372036854775806
theorem c_laws_eqLog (a b : Log) (hl : logLen a) : F n_laws_eqLog [.val (logR a), .val (logR b)] (.b (decide (a = b))) [[], []] := by
  obtain ⟨a_safe, a_loose⟩ := a
  obtain ⟨b_safe, b_loose⟩ := b
  simp only [logLen] at hl
  obtain ⟨hl0, hl1⟩ := hl
  refine i_laws_eqLog ?_
  conv => whnf
  refine g 0 2 [] ?_
  conv => whnf
  refine ⟨⟨⟨I, I, I⟩, ⟨I, I, I⟩, I, I⟩, ?_⟩
  refine W.sq ?_
  refine g 5 10 [.call (V.b (decide (a_safe = b_safe))) ([[], []])] ?_
  conv => whnf
  refine ⟨⟨I, I, I, I, ⟨⟨I, I, I⟩, I, ⟨⟨I, I⟩, ⟨I, I⟩, I⟩, ⟨I, I⟩, Go.K.c_laws_eqStringS _ _ (by omega)⟩, I, I⟩, ?_⟩
  refine W.cn ?_
  conv => whnf
  refine ⟨fun h1 => ?_, fun h1 => ?_⟩
  replace h1 := ndt h1
  refine g 10 11 [] ?_
  conv => whnf
  refine ⟨⟨I, I⟩, ?_⟩
  refine W.ret ?_
  refine EndsW.rt ?_
  conv => whnf
  refine ⟨⟨I, I, I⟩, ?_, rfl⟩
  rotate_left 1
  replace h1 := ndf h1
  refine W.skip ?_
  refine W.sq ?_
  refine g 10 16 [.call (V.b (decide (a_loose = b_loose))) ([[], []])] ?_
  conv => whnf
  refine ⟨⟨I, I, I, I, ⟨⟨I, I, I⟩, I, ⟨⟨I, I⟩, ⟨I, I⟩, I⟩, ⟨I, I⟩, Go.K.c_laws_eqStringS _ _ (by omega)⟩, I, I⟩, ?_⟩
  refine W.cn ?_
  conv => whnf
  refine ⟨fun h2 => ?_, fun h2 => ?_⟩
  replace h2 := ndt h2
  refine g 2 4 [] ?_
  conv => whnf
  refine ⟨⟨I, I⟩, ?_⟩
  refine W.ret ?_
  refine EndsW.rt ?_
  conv => whnf
  refine ⟨⟨I, I, I⟩, ?_, rfl⟩
  rotate_left 1
  replace h2 := ndf h2
  refine W.skip ?_
  refine g 2 4 [] ?_
  conv => whnf
  refine ⟨⟨I, I⟩, ?_⟩
  refine W.ret ?_
  refine EndsW.rt ?_
  conv => whnf
  refine ⟨⟨I, I, I⟩, ?_, rfl⟩
  rotate_left 1
  all_goals (first | exact vbt (by simp_all; done) | exact vbf (by simp_all; done))
theorem c_laws_eqJob (a b : Job) : F n_laws_eqJob [.val (jobR a), .val (jobR b)] (.b (decide (a = b))) [[], []] := by
  obtain ⟨a_lease, a_worker, a_til⟩ := a
  obtain ⟨b_lease, b_worker, b_til⟩ := b
  refine i_laws_eqJob ?_
  conv => whnf
  refine g 0 2 [] ?_
  conv => whnf
  refine ⟨⟨⟨I, I, I, I⟩, ⟨I, I, I, I⟩, I, I⟩, ?_⟩
  refine W.sq ?_
  refine g 5 9 [] ?_
  conv => whnf
  refine ⟨⟨I, I, I, I, I, I⟩, ?_⟩
  refine W.cn ?_
  conv => whnf
  refine ⟨fun h1 => ?_, fun h1 => ?_⟩
  replace h1 := ndt h1
  refine g 9 10 [] ?_
  conv => whnf
  refine ⟨⟨I, I⟩, ?_⟩
  refine W.ret ?_
  refine EndsW.rt ?_
  conv => whnf
  refine ⟨⟨I, I, I⟩, ?_, rfl⟩
  rotate_left 1
  replace h1 := ndf h1
  refine W.skip ?_
  refine W.sq ?_
  refine g 9 14 [] ?_
  conv => whnf
  refine ⟨⟨I, I, I, I, I, I⟩, ?_⟩
  refine W.cn ?_
  conv => whnf
  refine ⟨fun h2 => ?_, fun h2 => ?_⟩
  replace h2 := ndt h2
  refine g 14 15 [] ?_
  conv => whnf
  refine ⟨⟨I, I⟩, ?_⟩
  refine W.ret ?_
  refine EndsW.rt ?_
  conv => whnf
  refine ⟨⟨I, I, I⟩, ?_, rfl⟩
  rotate_left 1
  replace h2 := ndf h2
  refine W.skip ?_
  refine W.sq ?_
  refine g 14 19 [] ?_
  conv => whnf
  refine ⟨⟨I, I, I, I, I, I⟩, ?_⟩
  refine W.cn ?_
  conv => whnf
  refine ⟨fun h3 => ?_, fun h3 => ?_⟩
  replace h3 := ndt h3
  refine g 2 4 [] ?_
  conv => whnf
  refine ⟨⟨I, I⟩, ?_⟩
  refine W.ret ?_
  refine EndsW.rt ?_
  conv => whnf
  refine ⟨⟨I, I, I⟩, ?_, rfl⟩
  rotate_left 1
  replace h3 := ndf h3
  refine W.skip ?_
  refine g 2 4 [] ?_
  conv => whnf
  refine ⟨⟨I, I⟩, ?_⟩
  refine W.ret ?_
  refine EndsW.rt ?_
  conv => whnf
  refine ⟨⟨I, I, I⟩, ?_, rfl⟩
  rotate_left 1
  all_goals (first | exact vbt (by simp_all; done) | exact vbf (by simp_all; done))
theorem c_laws_eqJobS (xs ys : List Job) (hl : xs.length ≤ 9223372036854775806) : F n_laws_eqJobS [.val (.t (.slc jobK (xs.map jobT))), .val (.t (.slc jobK (ys.map jobT)))] (.b (decide (xs = ys))) [[], []] := by
  refine i_laws_eqJobS ?_
  conv => whnf
  refine g 0 0 [] ?_
  conv => whnf
  refine ⟨⟨I, I⟩, ?_⟩
  refine W.sq ?_
  refine g 6 10 [] ?_
  conv => whnf
  refine ⟨⟨I, I, I, I, I, I⟩, ?_⟩
  refine W.cn ?_
  conv => whnf
  refine ⟨fun h1 => ?_, fun h1 => ?_⟩
  replace h1 := ndt h1
  simp only [List.length_map] at h1
  refine g 10 11 [] ?_
  conv => whnf
  refine ⟨⟨I, I⟩, ?_⟩
  refine W.ret ?_
  refine EndsW.rt ?_
  conv => whnf
  refine ⟨⟨I, I, I⟩, ?_, rfl⟩
  rotate_left 1
  replace h1 := ndf h1
  simp only [List.length_map] at h1
  refine W.skip ?_
  refine W.sq ?_
  refine g 10 11 [] ?_
  conv => whnf
  refine ⟨⟨I, I⟩, ?_⟩
  refine W.blk ?_
  rotate_left 1
  · exact vbf (fun e => h1 (by rw [e]))
  refine W.lp (fun s (n : Nat) => ⟨[(0, s.s 0), (1, s.s 1), (5, .i n)], [], []⟩) (fun (n : Nat) => n ≤ xs.length ∧ xs.take n = ys.take n) (fun (n : Nat) => xs.length - n) (0) [] [] ⟨rfl, ⟨rfl, rfl, rfl, I⟩, I, I⟩ (by simp) ?_
  rintro n ⟨hn, hc⟩
  conv => whnf
  refine W.sq ?_
  refine g 11 14 [] ?_
  conv => whnf
  refine ⟨⟨I, I, I, I, I⟩, ?_⟩
  refine W.cn ?_
  conv => whnf
  refine ⟨fun h2 => ?_, fun h2 => ?_⟩
  replace h2 := dt h2
  simp only [List.length_map] at h2
  refine W.skip ?_
  refine W.sq ?_
  refine W.blk ?_
  obtain ⟨y1, hy1⟩ := some_at (xs := xs) (n := n) (by omega)
  obtain ⟨y2, hy2⟩ := some_at (xs := ys) (n := n) (by omega)
  refine gd 14 26 [[], [], [.x (jobT y1)], [], [], [], [.x (jobT y2)], [], [.call (V.b (decide (y1 = y2))) ([[], []])], []] ?_
  conv => whnf
  refine ⟨⟨I, I, ⟨(by omega), ixl (by assumption)⟩, I, I, I, ⟨(by omega), ixl (by assumption)⟩, I, ⟨⟨I, I, I⟩, I, ⟨⟨I, I, I, I⟩, ⟨I, I, I, I⟩, I⟩, ⟨I, I⟩, Go.K.c_laws_eqJob _ _⟩, I, I⟩, by kernel_rfl, ?_⟩
  refine W.cn ?_
  conv => whnf
  refine ⟨fun h3 => ?_, fun h3 => ?_⟩
  replace h3 := ndt h3
  refine g 26 27 [] ?_
  conv => whnf
  refine ⟨⟨I, I⟩, ?_⟩
  refine W.ret ?_
  refine EndsW.rt ?_
  conv => whnf
  refine ⟨⟨I, I, I⟩, ?_, rfl⟩
  rotate_left 1
  replace h3 := ndf h3
  refine W.skip ?_
  refine rg [.i ((↑n : Int) + (1 : Int))] ?_
  conv => whnf
  refine ⟨⟨I, w64 (by omega) (by omega), I, I⟩, ?_⟩
  rotate_left 1
  replace h2 := df h2
  simp only [List.length_map] at h2
  refine W.exit ?_
  refine g 0 2 [] ?_
  conv => whnf
  refine ⟨⟨I, I⟩, ?_⟩
  refine W.ret ?_
  refine EndsW.rt ?_
  conv => whnf
  refine ⟨⟨I, I, I⟩, ?_, rfl⟩
  rotate_left 1
  · exact vbf (fun e => by subst e; rw [hy1] at hy2; cases hy2; exact h3 rfl)
  · refine ⟨n + 1, [], [], ⟨rfl, ⟨rfl, rfl, rfl, I⟩, I, I⟩, ?_, ?_⟩
    rotate_left 1
    (dsimp only; omega)
    dsimp only
    exact ⟨by omega, take_eq hc hy1 (by rw [hy2]; exact congrArg some (Eq.symm h3))⟩
  · exact vbt (by rw [take_all (by omega), take_all (by omega)] at hc; exact hc)
theorem c_laws_eqSeat (a b : Seat) : F n_laws_eqSeat [.val (seatR a), .val (seatR b)] (.b (decide (a = b))) [[], []] := by
  obtain ⟨a_free, a_epoch⟩ := a
  obtain ⟨b_free, b_epoch⟩ := b
  refine i_laws_eqSeat ?_
  conv => whnf
  refine g 0 2 [] ?_
  conv => whnf
  refine ⟨⟨⟨I, I, I⟩, ⟨I, I, I⟩, I, I⟩, ?_⟩
  refine W.sq ?_
  refine g 5 9 [] ?_
  conv => whnf
  refine ⟨⟨I, I, I, I, I, I⟩, ?_⟩
  refine W.cn ?_
  conv => whnf
  refine ⟨fun h1 => ?_, fun h1 => ?_⟩
  replace h1 := nbt h1
  refine g 9 10 [] ?_
  conv => whnf
  refine ⟨⟨I, I⟩, ?_⟩
  refine W.ret ?_
  refine EndsW.rt ?_
  conv => whnf
  refine ⟨⟨I, I, I⟩, ?_, rfl⟩
  rotate_left 1
  replace h1 := nbf h1
  refine W.skip ?_
  refine W.sq ?_
  refine g 9 14 [] ?_
  conv => whnf
  refine ⟨⟨I, I, I, I, I, I⟩, ?_⟩
  refine W.cn ?_
  conv => whnf
  refine ⟨fun h2 => ?_, fun h2 => ?_⟩
  replace h2 := ndt h2
  refine g 2 4 [] ?_
  conv => whnf
  refine ⟨⟨I, I⟩, ?_⟩
  refine W.ret ?_
  refine EndsW.rt ?_
  conv => whnf
  refine ⟨⟨I, I, I⟩, ?_, rfl⟩
  rotate_left 1
  replace h2 := ndf h2
  refine W.skip ?_
  refine g 2 4 [] ?_
  conv => whnf
  refine ⟨⟨I, I⟩, ?_⟩
  refine W.ret ?_
  refine EndsW.rt ?_
  conv => whnf
  refine ⟨⟨I, I, I⟩, ?_, rfl⟩
  rotate_left 1
  all_goals (first | exact vbt (by simp_all; done) | exact vbf (by simp_all; done))
theorem c_laws_eqSeatS (xs ys : List Seat) (hl : xs.length ≤ 9223372036854775806) : F n_laws_eqSeatS [.val (.t (.slc seatK (xs.map seatT))), .val (.t (.slc seatK (ys.map seatT)))] (.b (decide (xs = ys))) [[], []] := by
  refine i_laws_eqSeatS ?_
  conv => whnf
  refine g 0 0 [] ?_
  conv => whnf
  refine ⟨⟨I, I⟩, ?_⟩
  refine W.sq ?_
  refine g 6 10 [] ?_
  conv => whnf
  refine ⟨⟨I, I, I, I, I, I⟩, ?_⟩
  refine W.cn ?_
  conv => whnf
  refine ⟨fun h1 => ?_, fun h1 => ?_⟩
  replace h1 := ndt h1
  simp only [List.length_map] at h1
  refine g 10 11 [] ?_
  conv => whnf
  refine ⟨⟨I, I⟩, ?_⟩
  refine W.ret ?_
  refine EndsW.rt ?_
  conv => whnf
  refine ⟨⟨I, I, I⟩, ?_, rfl⟩
  rotate_left 1
  replace h1 := ndf h1
  simp only [List.length_map] at h1
  refine W.skip ?_
  refine W.sq ?_
  refine g 10 11 [] ?_
  conv => whnf
  refine ⟨⟨I, I⟩, ?_⟩
  refine W.blk ?_
  rotate_left 1
  · exact vbf (fun e => h1 (by rw [e]))
  refine W.lp (fun s (n : Nat) => ⟨[(0, s.s 0), (1, s.s 1), (5, .i n)], [], []⟩) (fun (n : Nat) => n ≤ xs.length ∧ xs.take n = ys.take n) (fun (n : Nat) => xs.length - n) (0) [] [] ⟨rfl, ⟨rfl, rfl, rfl, I⟩, I, I⟩ (by simp) ?_
  rintro n ⟨hn, hc⟩
  conv => whnf
  refine W.sq ?_
  refine g 11 14 [] ?_
  conv => whnf
  refine ⟨⟨I, I, I, I, I⟩, ?_⟩
  refine W.cn ?_
  conv => whnf
  refine ⟨fun h2 => ?_, fun h2 => ?_⟩
  replace h2 := dt h2
  simp only [List.length_map] at h2
  refine W.skip ?_
  refine W.sq ?_
  refine W.blk ?_
  obtain ⟨y1, hy1⟩ := some_at (xs := xs) (n := n) (by omega)
  obtain ⟨y2, hy2⟩ := some_at (xs := ys) (n := n) (by omega)
  refine gd 14 26 [[], [], [.x (seatT y1)], [], [], [], [.x (seatT y2)], [], [.call (V.b (decide (y1 = y2))) ([[], []])], []] ?_
  conv => whnf
  refine ⟨⟨I, I, ⟨(by omega), ixl (by assumption)⟩, I, I, I, ⟨(by omega), ixl (by assumption)⟩, I, ⟨⟨I, I, I⟩, I, ⟨⟨I, I, I⟩, ⟨I, I, I⟩, I⟩, ⟨I, I⟩, Go.K.c_laws_eqSeat _ _⟩, I, I⟩, by kernel_rfl, ?_⟩
  refine W.cn ?_
  conv => whnf
  refine ⟨fun h3 => ?_, fun h3 => ?_⟩
  replace h3 := ndt h3
  refine g 26 27 [] ?_
  conv => whnf
  refine ⟨⟨I, I⟩, ?_⟩
  refine W.ret ?_
  refine EndsW.rt ?_
  conv => whnf
  refine ⟨⟨I, I, I⟩, ?_, rfl⟩
  rotate_left 1
  replace h3 := ndf h3
  refine W.skip ?_
  refine rg [.i ((↑n : Int) + (1 : Int))] ?_
  conv => whnf
  refine ⟨⟨I, w64 (by omega) (by omega), I, I⟩, ?_⟩
  rotate_left 1
  replace h2 := df h2
  simp only [List.length_map] at h2
  refine W.exit ?_
  refine g 0 2 [] ?_
  conv => whnf
  refine ⟨⟨I, I⟩, ?_⟩
  refine W.ret ?_
  refine EndsW.rt ?_
  conv => whnf
  refine ⟨⟨I, I, I⟩, ?_, rfl⟩
  rotate_left 1
  · exact vbf (fun e => by subst e; rw [hy1] at hy2; cases hy2; exact h3 rfl)
  · refine ⟨n + 1, [], [], ⟨rfl, ⟨rfl, rfl, rfl, I⟩, I, I⟩, ?_, ?_⟩
    rotate_left 1
    (dsimp only; omega)
    dsimp only
    exact ⟨by omega, take_eq hc hy1 (by rw [hy2]; exact congrArg some (Eq.symm h3))⟩
  · exact vbt (by rw [take_all (by omega), take_all (by omega)] at hc; exact hc)
theorem c_laws_eqOwed (a b : Owed) : F n_laws_eqOwed [.val (owedR a), .val (owedR b)] (.b (decide (a = b))) [[], []] := by
  obtain ⟨a_worker, a_lease, a_task⟩ := a
  obtain ⟨b_worker, b_lease, b_task⟩ := b
  refine i_laws_eqOwed ?_
  conv => whnf
  refine g 0 2 [] ?_
  conv => whnf
  refine ⟨⟨⟨I, I, I, I⟩, ⟨I, I, I, I⟩, I, I⟩, ?_⟩
  refine W.sq ?_
  refine g 5 9 [] ?_
  conv => whnf
  refine ⟨⟨I, I, I, I, I, I⟩, ?_⟩
  refine W.cn ?_
  conv => whnf
  refine ⟨fun h1 => ?_, fun h1 => ?_⟩
  replace h1 := ndt h1
  refine g 9 10 [] ?_
  conv => whnf
  refine ⟨⟨I, I⟩, ?_⟩
  refine W.ret ?_
  refine EndsW.rt ?_
  conv => whnf
  refine ⟨⟨I, I, I⟩, ?_, rfl⟩
  rotate_left 1
  replace h1 := ndf h1
  refine W.skip ?_
  refine W.sq ?_
  refine g 9 14 [] ?_
  conv => whnf
  refine ⟨⟨I, I, I, I, I, I⟩, ?_⟩
  refine W.cn ?_
  conv => whnf
  refine ⟨fun h2 => ?_, fun h2 => ?_⟩
  replace h2 := ndt h2
  refine g 14 15 [] ?_
  conv => whnf
  refine ⟨⟨I, I⟩, ?_⟩
  refine W.ret ?_
  refine EndsW.rt ?_
  conv => whnf
  refine ⟨⟨I, I, I⟩, ?_, rfl⟩
  rotate_left 1
  replace h2 := ndf h2
  refine W.skip ?_
  refine W.sq ?_
  refine g 14 19 [] ?_
  conv => whnf
  refine ⟨⟨I, I, I, I, I, I⟩, ?_⟩
  refine W.cn ?_
  conv => whnf
  refine ⟨fun h3 => ?_, fun h3 => ?_⟩
  replace h3 := ndt h3
  refine g 2 4 [] ?_
  conv => whnf
  refine ⟨⟨I, I⟩, ?_⟩
  refine W.ret ?_
  refine EndsW.rt ?_
  conv => whnf
  refine ⟨⟨I, I, I⟩, ?_, rfl⟩
  rotate_left 1
  replace h3 := ndf h3
  refine W.skip ?_
  refine g 2 4 [] ?_
  conv => whnf
  refine ⟨⟨I, I⟩, ?_⟩
  refine W.ret ?_
  refine EndsW.rt ?_
  conv => whnf
  refine ⟨⟨I, I, I⟩, ?_, rfl⟩
  rotate_left 1
  all_goals (first | exact vbt (by simp_all; done) | exact vbf (by simp_all; done))
theorem c_laws_eqOwedS (xs ys : List Owed) (hl : xs.length ≤ 9223372036854775806) : F n_laws_eqOwedS [.val (.t (.slc owedK (xs.map owedT))), .val (.t (.slc owedK (ys.map owedT)))] (.b (decide (xs = ys))) [[], []] := by
  refine i_laws_eqOwedS ?_
  conv => whnf
  refine g 0 0 [] ?_
  conv => whnf
  refine ⟨⟨I, I⟩, ?_⟩
  refine W.sq ?_
  refine g 6 10 [] ?_
  conv => whnf
  refine ⟨⟨I, I, I, I, I, I⟩, ?_⟩
  refine W.cn ?_
  conv => whnf
  refine ⟨fun h1 => ?_, fun h1 => ?_⟩
  replace h1 := ndt h1
  simp only [List.length_map] at h1
  refine g 10 11 [] ?_
  conv => whnf
  refine ⟨⟨I, I⟩, ?_⟩
  refine W.ret ?_
  refine EndsW.rt ?_
  conv => whnf
  refine ⟨⟨I, I, I⟩, ?_, rfl⟩
  rotate_left 1
  replace h1 := ndf h1
  simp only [List.length_map] at h1
  refine W.skip ?_
  refine W.sq ?_
  refine g 10 11 [] ?_
  conv => whnf
  refine ⟨⟨I, I⟩, ?_⟩
  refine W.blk ?_
  rotate_left 1
  · exact vbf (fun e => h1 (by rw [e]))
  refine W.lp (fun s (n : Nat) => ⟨[(0, s.s 0), (1, s.s 1), (5, .i n)], [], []⟩) (fun (n : Nat) => n ≤ xs.length ∧ xs.take n = ys.take n) (fun (n : Nat) => xs.length - n) (0) [] [] ⟨rfl, ⟨rfl, rfl, rfl, I⟩, I, I⟩ (by simp) ?_
  rintro n ⟨hn, hc⟩
  conv => whnf
  refine W.sq ?_
  refine g 11 14 [] ?_
  conv => whnf
  refine ⟨⟨I, I, I, I, I⟩, ?_⟩
  refine W.cn ?_
  conv => whnf
  refine ⟨fun h2 => ?_, fun h2 => ?_⟩
  replace h2 := dt h2
  simp only [List.length_map] at h2
  refine W.skip ?_
  refine W.sq ?_
  refine W.blk ?_
  obtain ⟨y1, hy1⟩ := some_at (xs := xs) (n := n) (by omega)
  obtain ⟨y2, hy2⟩ := some_at (xs := ys) (n := n) (by omega)
  refine gd 14 26 [[], [], [.x (owedT y1)], [], [], [], [.x (owedT y2)], [], [.call (V.b (decide (y1 = y2))) ([[], []])], []] ?_
  conv => whnf
  refine ⟨⟨I, I, ⟨(by omega), ixl (by assumption)⟩, I, I, I, ⟨(by omega), ixl (by assumption)⟩, I, ⟨⟨I, I, I⟩, I, ⟨⟨I, I, I, I⟩, ⟨I, I, I, I⟩, I⟩, ⟨I, I⟩, Go.K.c_laws_eqOwed _ _⟩, I, I⟩, by kernel_rfl, ?_⟩
  refine W.cn ?_
  conv => whnf
  refine ⟨fun h3 => ?_, fun h3 => ?_⟩
  replace h3 := ndt h3
  refine g 26 27 [] ?_
  conv => whnf
  refine ⟨⟨I, I⟩, ?_⟩
  refine W.ret ?_
  refine EndsW.rt ?_
  conv => whnf
  refine ⟨⟨I, I, I⟩, ?_, rfl⟩
  rotate_left 1
  replace h3 := ndf h3
  refine W.skip ?_
  refine rg [.i ((↑n : Int) + (1 : Int))] ?_
  conv => whnf
  refine ⟨⟨I, w64 (by omega) (by omega), I, I⟩, ?_⟩
  rotate_left 1
  replace h2 := df h2
  simp only [List.length_map] at h2
  refine W.exit ?_
  refine g 0 2 [] ?_
  conv => whnf
  refine ⟨⟨I, I⟩, ?_⟩
  refine W.ret ?_
  refine EndsW.rt ?_
  conv => whnf
  refine ⟨⟨I, I, I⟩, ?_, rfl⟩
  rotate_left 1
  · exact vbf (fun e => by subst e; rw [hy1] at hy2; cases hy2; exact h3 rfl)
  · refine ⟨n + 1, [], [], ⟨rfl, ⟨rfl, rfl, rfl, I⟩, I, I⟩, ?_, ?_⟩
    rotate_left 1
    (dsimp only; omega)
    dsimp only
    exact ⟨by omega, take_eq hc hy1 (by rw [hy2]; exact congrArg some (Eq.symm h3))⟩
  · exact vbt (by rw [take_all (by omega), take_all (by omega)] at hc; exact hc)
def bossLen (a : Boss) : Prop := a.log.safe.length ≤ 9223372036854775806 ∧ a.log.loose.length ≤ 9223372036854775806 ∧ a.results.length ≤ 9223372036854775806 ∧ a.jobs.length ≤ 9223372036854775806 ∧ a.seats.length ≤ 9223372036854775806 ∧ a.owed.length ≤ 9223372036854775806
theorem c_laws_eqBoss (a b : Boss) (hl : bossLen a) : F n_laws_eqBoss [.val (bossR a), .val (bossR b)] (.b (decide (a = b))) [[], []] := by
  obtain ⟨a_workers, a_up, a_now, a_since, a_epoch, a_given, a_log, a_results, a_jobs, a_seats, a_owed⟩ := a
  obtain ⟨b_workers, b_up, b_now, b_since, b_epoch, b_given, b_log, b_results, b_jobs, b_seats, b_owed⟩ := b
  simp only [bossLen] at hl
  obtain ⟨hl0, hl1, hl2, hl3, hl4, hl5⟩ := hl
  have hx0 : logLen a_log := ⟨hl0, hl1⟩
  refine i_laws_eqBoss ?_
  conv => whnf
  refine g 0 2 [] ?_
  conv => whnf
  refine ⟨⟨⟨I, I, I, I, I, I, I, I, I, I, I, I, I⟩, ⟨I, I, I, I, I, I, I, I, I, I, I, I, I⟩, I, I⟩, ?_⟩
  refine W.sq ?_
  refine g 5 9 [] ?_
  conv => whnf
  refine ⟨⟨I, I, I, I, I, I⟩, ?_⟩
  refine W.cn ?_
  conv => whnf
  refine ⟨fun h1 => ?_, fun h1 => ?_⟩
  replace h1 := ndt h1
  refine g 9 10 [] ?_
  conv => whnf
  refine ⟨⟨I, I⟩, ?_⟩
  refine W.ret ?_
  refine EndsW.rt ?_
  conv => whnf
  refine ⟨⟨I, I, I⟩, ?_, rfl⟩
  rotate_left 1
  replace h1 := ndf h1
  refine W.skip ?_
  refine W.sq ?_
  refine g 9 14 [] ?_
  conv => whnf
  refine ⟨⟨I, I, I, I, I, I⟩, ?_⟩
  refine W.cn ?_
  conv => whnf
  refine ⟨fun h2 => ?_, fun h2 => ?_⟩
  replace h2 := nbt h2
  refine g 14 15 [] ?_
  conv => whnf
  refine ⟨⟨I, I⟩, ?_⟩
  refine W.ret ?_
  refine EndsW.rt ?_
  conv => whnf
  refine ⟨⟨I, I, I⟩, ?_, rfl⟩
  rotate_left 1
  replace h2 := nbf h2
  refine W.skip ?_
  refine W.sq ?_
  refine g 14 19 [] ?_
  conv => whnf
  refine ⟨⟨I, I, I, I, I, I⟩, ?_⟩
  refine W.cn ?_
  conv => whnf
  refine ⟨fun h3 => ?_, fun h3 => ?_⟩
  replace h3 := ndt h3
  refine g 19 20 [] ?_
  conv => whnf
  refine ⟨⟨I, I⟩, ?_⟩
  refine W.ret ?_
  refine EndsW.rt ?_
  conv => whnf
  refine ⟨⟨I, I, I⟩, ?_, rfl⟩
  rotate_left 1
  replace h3 := ndf h3
  refine W.skip ?_
  refine W.sq ?_
  refine g 19 24 [] ?_
  conv => whnf
  refine ⟨⟨I, I, I, I, I, I⟩, ?_⟩
  refine W.cn ?_
  conv => whnf
  refine ⟨fun h4 => ?_, fun h4 => ?_⟩
  replace h4 := ndt h4
  refine g 24 25 [] ?_
  conv => whnf
  refine ⟨⟨I, I⟩, ?_⟩
  refine W.ret ?_
  refine EndsW.rt ?_
  conv => whnf
  refine ⟨⟨I, I, I⟩, ?_, rfl⟩
  rotate_left 1
  replace h4 := ndf h4
  refine W.skip ?_
  refine W.sq ?_
  refine g 24 29 [] ?_
  conv => whnf
  refine ⟨⟨I, I, I, I, I, I⟩, ?_⟩
  refine W.cn ?_
  conv => whnf
  refine ⟨fun h5 => ?_, fun h5 => ?_⟩
  replace h5 := ndt h5
  refine g 29 30 [] ?_
  conv => whnf
  refine ⟨⟨I, I⟩, ?_⟩
  refine W.ret ?_
  refine EndsW.rt ?_
  conv => whnf
  refine ⟨⟨I, I, I⟩, ?_, rfl⟩
  rotate_left 1
  replace h5 := ndf h5
  refine W.skip ?_
  refine W.sq ?_
  refine g 29 34 [] ?_
  conv => whnf
  refine ⟨⟨I, I, I, I, I, I⟩, ?_⟩
  refine W.cn ?_
  conv => whnf
  refine ⟨fun h6 => ?_, fun h6 => ?_⟩
  replace h6 := ndt h6
  refine g 34 35 [] ?_
  conv => whnf
  refine ⟨⟨I, I⟩, ?_⟩
  refine W.ret ?_
  refine EndsW.rt ?_
  conv => whnf
  refine ⟨⟨I, I, I⟩, ?_, rfl⟩
  rotate_left 1
  replace h6 := ndf h6
  refine W.skip ?_
  refine W.sq ?_
  refine g 34 40 [.call (V.b (decide (a_log = b_log))) ([[], []])] ?_
  conv => whnf
  refine ⟨⟨I, I, I, I, ⟨⟨I, I, I⟩, I, ⟨⟨I, I, I⟩, ⟨I, I, I⟩, I⟩, ⟨I, I⟩, Go.K.c_laws_eqLog _ _ (by omega)⟩, I, I⟩, ?_⟩
  refine W.cn ?_
  conv => whnf
  refine ⟨fun h7 => ?_, fun h7 => ?_⟩
  replace h7 := ndt h7
  refine g 40 41 [] ?_
  conv => whnf
  refine ⟨⟨I, I⟩, ?_⟩
  refine W.ret ?_
  refine EndsW.rt ?_
  conv => whnf
  refine ⟨⟨I, I, I⟩, ?_, rfl⟩
  rotate_left 1
  replace h7 := ndf h7
  refine W.skip ?_
  refine W.sq ?_
  refine g 40 46 [.call (V.b (decide (a_results = b_results))) ([[], []])] ?_
  conv => whnf
  refine ⟨⟨I, I, I, I, ⟨⟨I, I, I⟩, I, ⟨⟨I, I⟩, ⟨I, I⟩, I⟩, ⟨I, I⟩, Go.K.c_laws_eqStringS _ _ (by omega)⟩, I, I⟩, ?_⟩
  refine W.cn ?_
  conv => whnf
  refine ⟨fun h8 => ?_, fun h8 => ?_⟩
  replace h8 := ndt h8
  refine g 46 47 [] ?_
  conv => whnf
  refine ⟨⟨I, I⟩, ?_⟩
  refine W.ret ?_
  refine EndsW.rt ?_
  conv => whnf
  refine ⟨⟨I, I, I⟩, ?_, rfl⟩
  rotate_left 1
  replace h8 := ndf h8
  refine W.skip ?_
  refine W.sq ?_
  refine g 46 52 [.call (V.b (decide (a_jobs = b_jobs))) ([[], []])] ?_
  conv => whnf
  refine ⟨⟨I, I, I, I, ⟨⟨I, I, I⟩, I, ⟨⟨I, I⟩, ⟨I, I⟩, I⟩, ⟨I, I⟩, Go.K.c_laws_eqJobS _ _ (by omega)⟩, I, I⟩, ?_⟩
  refine W.cn ?_
  conv => whnf
  refine ⟨fun h9 => ?_, fun h9 => ?_⟩
  replace h9 := ndt h9
  refine g 52 53 [] ?_
  conv => whnf
  refine ⟨⟨I, I⟩, ?_⟩
  refine W.ret ?_
  refine EndsW.rt ?_
  conv => whnf
  refine ⟨⟨I, I, I⟩, ?_, rfl⟩
  rotate_left 1
  replace h9 := ndf h9
  refine W.skip ?_
  refine W.sq ?_
  refine g 52 58 [.call (V.b (decide (a_seats = b_seats))) ([[], []])] ?_
  conv => whnf
  refine ⟨⟨I, I, I, I, ⟨⟨I, I, I⟩, I, ⟨⟨I, I⟩, ⟨I, I⟩, I⟩, ⟨I, I⟩, Go.K.c_laws_eqSeatS _ _ (by omega)⟩, I, I⟩, ?_⟩
  refine W.cn ?_
  conv => whnf
  refine ⟨fun h10 => ?_, fun h10 => ?_⟩
  replace h10 := ndt h10
  refine g 58 59 [] ?_
  conv => whnf
  refine ⟨⟨I, I⟩, ?_⟩
  refine W.ret ?_
  refine EndsW.rt ?_
  conv => whnf
  refine ⟨⟨I, I, I⟩, ?_, rfl⟩
  rotate_left 1
  replace h10 := ndf h10
  refine W.skip ?_
  refine W.sq ?_
  refine g 58 64 [.call (V.b (decide (a_owed = b_owed))) ([[], []])] ?_
  conv => whnf
  refine ⟨⟨I, I, I, I, ⟨⟨I, I, I⟩, I, ⟨⟨I, I⟩, ⟨I, I⟩, I⟩, ⟨I, I⟩, Go.K.c_laws_eqOwedS _ _ (by omega)⟩, I, I⟩, ?_⟩
  refine W.cn ?_
  conv => whnf
  refine ⟨fun h11 => ?_, fun h11 => ?_⟩
  replace h11 := ndt h11
  refine g 2 4 [] ?_
  conv => whnf
  refine ⟨⟨I, I⟩, ?_⟩
  refine W.ret ?_
  refine EndsW.rt ?_
  conv => whnf
  refine ⟨⟨I, I, I⟩, ?_, rfl⟩
  rotate_left 1
  replace h11 := ndf h11
  refine W.skip ?_
  refine g 2 4 [] ?_
  conv => whnf
  refine ⟨⟨I, I⟩, ?_⟩
  refine W.ret ?_
  refine EndsW.rt ?_
  conv => whnf
  refine ⟨⟨I, I, I⟩, ?_, rfl⟩
  rotate_left 1
  all_goals (first | exact vbt (by simp_all; done) | exact vbf (by simp_all; done))
theorem wf_Log {n : Nat} {x : List T} (h : wfT E (n + 3) ty_laws_Log x) : ∃ v : Log, x = logT v ∧ logWf v := by
  obtain ⟨y0, z0, e0, ⟨lsafe, rfl, hsafe, gsafe⟩, y1, z1, e1, ⟨lloose, rfl, hloose, gloose⟩, e2⟩ := h
  subst e2
  subst e1
  obtain ⟨safe, rfl, wsafe⟩ := wf_strs gsafe
  obtain ⟨loose, rfl, wloose⟩ := wf_strs gloose
  subst e0
  exact ⟨⟨safe, loose⟩, rfl, ⟨by rw [List.length_map] at hsafe; exact hsafe, wsafe, by rw [List.length_map] at hloose; exact hloose, wloose⟩⟩
theorem wf_Job {n : Nat} {x : List T} (h : wfT E (n + 2) ty_laws_Job x) : ∃ v : Job, x = jobT v ∧ jobWf v := by
  obtain ⟨y0, z0, e0, ⟨lease, rfl, _, _⟩, y1, z1, e1, ⟨worker, rfl, _, _⟩, y2, z2, e2, ⟨til, rfl, _, _⟩, e3⟩ := h
  subst e3
  subst e2
  subst e1
  subst e0
  exact ⟨⟨lease, worker, til⟩, rfl, trivial⟩
theorem wf_Seat {n : Nat} {x : List T} (h : wfT E (n + 2) ty_laws_Seat x) : ∃ v : Seat, x = seatT v ∧ seatWf v := by
  obtain ⟨y0, z0, e0, ⟨free, rfl⟩, y1, z1, e1, ⟨epoch, rfl, _, _⟩, e2⟩ := h
  subst e2
  subst e1
  subst e0
  exact ⟨⟨free, epoch⟩, rfl, trivial⟩
theorem wf_Owed {n : Nat} {x : List T} (h : wfT E (n + 2) ty_laws_Owed x) : ∃ v : Owed, x = owedT v ∧ owedWf v := by
  obtain ⟨y0, z0, e0, ⟨worker, rfl, _, _⟩, y1, z1, e1, ⟨lease, rfl, _, _⟩, y2, z2, e2, ⟨task, rfl, _, _⟩, e3⟩ := h
  subst e3
  subst e2
  subst e1
  subst e0
  exact ⟨⟨worker, lease, task⟩, rfl, trivial⟩
theorem wf_Boss {n : Nat} {x : List T} (h : wfT E (n + 4) ty_laws_Boss x) : ∃ v : Boss, x = bossT v ∧ bossWf v := by
  obtain ⟨y0, z0, e0, ⟨workers, rfl, _, _⟩, y1, z1, e1, ⟨up, rfl⟩, y2, z2, e2, ⟨now, rfl, _, _⟩, y3, z3, e3, ⟨since, rfl, _, _⟩, y4, z4, e4, ⟨epoch, rfl, _, _⟩, y5, z5, e5, ⟨given, rfl, _, _⟩, y6, z6, e6, wlog0, y7, z7, e7, ⟨lresults, rfl, hresults, gresults⟩, y8, z8, e8, ⟨ljobs, rfl, hjobs, gjobs⟩, y9, z9, e9, ⟨lseats, rfl, hseats, gseats⟩, y10, z10, e10, ⟨lowed, rfl, howed, gowed⟩, e11⟩ := h
  subst e11
  subst e10
  subst e9
  subst e8
  subst e7
  subst e6
  subst e5
  subst e4
  subst e3
  subst e2
  subst e1
  obtain ⟨log, rfl, wlog⟩ := wf_Log wlog0
  obtain ⟨results, rfl, wresults⟩ := wf_strs gresults
  obtain ⟨jobs, rfl, wjobs⟩ := map_of (f := jobT) (p := jobWf) (xs := ljobs) fun y hy => wf_Job (gjobs y hy)
  obtain ⟨seats, rfl, wseats⟩ := map_of (f := seatT) (p := seatWf) (xs := lseats) fun y hy => wf_Seat (gseats y hy)
  obtain ⟨owed, rfl, wowed⟩ := map_of (f := owedT) (p := owedWf) (xs := lowed) fun y hy => wf_Owed (gowed y hy)
  subst e0
  exact ⟨⟨workers, up, now, since, epoch, given, log, results, jobs, seats, owed⟩, rfl, ⟨wlog, by rw [List.length_map] at hresults; exact hresults, wresults, by rw [List.length_map] at hjobs; exact hjobs, by rw [List.length_map] at hseats; exact hseats, by rw [List.length_map] at howed; exact howed⟩⟩
end Go.K

end

section
set_option linter.unusedVariables false
set_option linter.unusedSimpArgs false
set_option maxHeartbeats 4000000
set_option maxRecDepth 20000
open Go Go.Tm Go.Proofs
namespace Go.K
theorem c_laws_markIntS (xs : List Int) (k : Int) (hl : xs.length ≤ 9223372036854775806) (h0 : 0 ≤ k) (hk : k + xs.length ≤ 1099511627776) : F n_laws_markIntS [.bor (.own [false] (xs.map intT)), .val (.i k)] (.i (k + xs.length)) [[.own [false] ((mkL (fun k _ => k) (fun _ => 1) k xs).map intT)], []] := by
  refine i_laws_markIntS ?_
  conv => whnf
  refine g 0 0 [] ?_
  conv => whnf
  refine ⟨⟨I, I⟩, ?_⟩
  refine W.sq ?_
  refine g 0 0 [] ?_
  conv => whnf
  refine ⟨⟨I, I⟩, ?_⟩
  refine W.blk ?_
  refine W.lp (fun s (n : Nat) => ⟨[(0, s.s 0), (1, .i (k + n)), (4, s.s 4), (5, .i n)], [(19, [.own [false] ((mkN (fun k _ => k) (fun _ => 1) k xs n).map intT)])], []⟩) (fun (n : Nat) => n ≤ xs.length) (fun (n : Nat) => xs.length - n) (0) [some 19] [] ⟨rfl, ⟨rfl, (congrArg (fun z => V.t (T.v (Value.int _ z))) (by simp [sumI])), rfl, rfl, I⟩, ⟨⟨rfl, ⟨rfl, I⟩⟩, I⟩, I⟩ (by omega) ?_
  intro n hn
  have hx := mkN_len (fun k _ => k) (fun _ => 1) k xs n
  have hs1 : ∀ x, xs[n]? = some x → ((mkN (fun k _ => k) (fun _ => 1) k xs n).map intT).set n (intT (k + n)) = (mkN (fun k _ => k) (fun _ => 1) k xs (n + 1)).map intT := fun x hx => by
    have := mkN_setm (f := (fun k _ => k)) (c := (fun _ => 1)) (g := intT) (k := k) hx
    rw [sum_one, List.length_take, Nat.min_eq_left hn] at this; exact this
  conv => whnf
  refine W.sq ?_
  refine g 6 9 [] ?_
  conv => whnf
  refine ⟨⟨I, I, I, I, I⟩, ?_⟩
  refine W.cn ?_
  conv => whnf
  refine ⟨fun h1 => ?_, fun h1 => ?_⟩
  replace h1 := dt h1
  simp only [List.length_map] at h1
  refine W.skip ?_
  refine W.sq ?_
  refine W.blk ?_
  obtain ⟨y1, hy1⟩ := some_at (xs := xs) (n := n) (by omega)
  refine g 9 16 [.n (n), .x (intT y1)] ?_
  conv => whnf
  refine ⟨⟨I, I, I, ⟨rfl, (by simp only [List.length_map, List.length_append, List.length_set, List.length_replicate, List.length_cons, List.length_nil, List.length_take, List.length_drop, fill_len, fillI_len, List.length_range, bytesT_len]; omega)⟩, ⟨⟨I, I⟩, mkN_getm (by assumption)⟩, I⟩, ?_⟩
  refine rg [.i (k + (↑n : Int) + (1 : Int))] ?_
  conv => whnf
  refine ⟨⟨I, w64 (by omega) (by omega), I, I⟩, ?_⟩
  refine rg [.i ((↑n : Int) + (1 : Int))] ?_
  conv => whnf
  refine ⟨⟨I, w64 (by omega) (by omega), I, I⟩, ?_⟩
  rotate_left 1
  replace h1 := df h1
  simp only [List.length_map] at h1
  refine W.exit ?_
  refine g 5 19 [] ?_
  conv => whnf
  refine ⟨⟨I, I, I⟩, ?_⟩
  refine W.ret ?_
  refine EndsW.rt ?_
  conv => whnf
  refine ⟨⟨I, I, I⟩, ?_, ?_⟩
  exact vi (by omega)
  rotate_left 1
  · refine ⟨n + 1, [some 19], [], ⟨rfl, ⟨rfl, (congrArg (fun z => V.t (T.v (Value.int _ z))) (by omega)), rfl, rfl, I⟩, ⟨⟨rfl, ⟨(congrArg (V.own _) (hs1 _ (by assumption))), I⟩⟩, I⟩, I⟩, ?_, ?_⟩
    rotate_left 1
    (dsimp only; omega)
    dsimp only
    omega
  · have e := mkN_all (fun k _ => k) (fun _ => 1) k xs (n := n) (by omega)
    rw [show n = xs.length by omega] at e ⊢
    rw [e]
def taskC (x : Task) : Int := 2 + (x.deps.length : Int)
theorem taskC_eq (x : Task) : taskC x = 2 + (x.deps.length : Int) := rfl
theorem taskC_nn (x : Task) : 0 ≤ taskC x := by
  simp only [taskC]; omega
def taskMk (k : Int) (x : Task) : Task := ⟨markT (k), k + 1, mkL (fun k _ => k) (fun _ => 1) (k + 1 + 1) x.deps⟩
theorem c_laws_markTaskS (xs : List Task) (k : Int) (hl : xs.length ≤ 9223372036854775806) (h0 : 0 ≤ k) (hk : k + sumI taskC xs ≤ 1099511627776) : F n_laws_markTaskS [.bor (.own taskK (xs.map taskT)), .val (.i k)] (.i (k + sumI taskC xs)) [[.own taskK ((mkL taskMk taskC k xs).map taskT)], []] := by
  refine i_laws_markTaskS ?_
  conv => whnf
  refine g 0 0 [] ?_
  conv => whnf
  refine ⟨⟨I, I⟩, ?_⟩
  refine W.sq ?_
  refine g 0 0 [] ?_
  conv => whnf
  refine ⟨⟨I, I⟩, ?_⟩
  refine W.blk ?_
  refine W.lp (fun s (n : Nat) => ⟨[(0, s.s 0), (1, .i (k + sumI taskC (xs.take n))), (4, s.s 4), (5, .i n)], [(35, [.own taskK ((mkN taskMk taskC k xs n).map taskT)])], []⟩) (fun (n : Nat) => n ≤ xs.length) (fun (n : Nat) => xs.length - n) (0) [some 35] [] ⟨rfl, ⟨rfl, (congrArg (fun z => V.t (T.v (Value.int _ z))) (by simp [sumI])), rfl, rfl, I⟩, ⟨⟨rfl, ⟨rfl, I⟩⟩, I⟩, I⟩ (by omega) ?_
  intro n hn
  have hx := mkN_len taskMk taskC k xs n
  have hq := sum_nn taskC_nn (xs.take n)
  have hle := sum_le taskC_nn xs (n + 1)
  have hle0 := sum_le taskC_nn xs n
  conv => whnf
  refine W.sq ?_
  refine g 6 9 [] ?_
  conv => whnf
  refine ⟨⟨I, I, I, I, I⟩, ?_⟩
  refine W.cn ?_
  conv => whnf
  refine ⟨fun h1 => ?_, fun h1 => ?_⟩
  replace h1 := dt h1
  simp only [List.length_map] at h1
  refine W.skip ?_
  refine W.sq ?_
  refine W.blk ?_
  obtain ⟨y1, hy1⟩ := some_at (xs := xs) (n := n) (by omega)
  have hk1 := sum_take (f := taskC) hy1
  have hk2 := taskC_nn y1
  have hk3 := taskC_eq y1
  refine g 9 18 [.call (V.s (markT (k + sumI taskC (List.take n xs)))) ([[]]), .n (n), .x (taskT y1)] ?_
  conv => whnf
  refine ⟨⟨I, I, I, ⟨⟨I, I⟩, I, ⟨⟨I, I⟩, I⟩, ⟨I, I⟩, Go.K.c_laws_markText _ (by omega)⟩, ⟨rfl, (by simp only [List.length_map, List.length_append, List.length_set, List.length_replicate, List.length_cons, List.length_nil, List.length_take, List.length_drop, fill_len, fillI_len, List.length_range, bytesT_len]; omega)⟩, I, ⟨⟨I, I⟩, mkN_getm (by assumption)⟩, I⟩, ?_⟩
  refine g 18 20 [.i (k + sumI taskC (List.take n xs) + (1 : Int))] ?_
  conv => whnf
  refine ⟨⟨I, w64 (by omega) (by omega), I, I⟩, ?_⟩
  refine g 20 25 [.n (n), .x (patch (taskT y1) ((0 : Nat) + (0 : Nat)) [T.v (Value.string (markT (k + sumI taskC (List.take n xs))))])] ?_
  conv => whnf
  refine ⟨⟨I, I, I, ⟨rfl, (by simp only [List.length_map, List.length_append, List.length_set, List.length_replicate, List.length_cons, List.length_nil, List.length_take, List.length_drop, fill_len, fillI_len, List.length_range, bytesT_len]; omega)⟩, I, ⟨⟨I, I⟩, getset (by simp only [List.length_map, List.length_append, List.length_set, List.length_replicate, List.length_cons, List.length_nil, List.length_take, List.length_drop, fill_len, fillI_len, List.length_range, bytesT_len]; omega)⟩, I⟩, ?_⟩
  refine g 25 27 [.i (k + sumI taskC (List.take n xs) + (1 : Int) + (1 : Int))] ?_
  conv => whnf
  refine ⟨⟨I, w64 (by omega) (by omega), I, I⟩, ?_⟩
  refine rg [.n (n), .x (patch (patch (taskT y1) ((0 : Nat) + (0 : Nat)) [T.v (Value.string (markT (k + sumI taskC (List.take n xs))))]) ((0 : Nat) + (1 : Nat)) [T.v (Value.int IntKind.i64 (k + sumI taskC (List.take n xs) + (1 : Int)))]), .x (patch (patch (taskT y1) ((0 : Nat) + (0 : Nat)) [T.v (Value.string (markT (k + sumI taskC (List.take n xs))))]) ((0 : Nat) + (1 : Nat)) [T.v (Value.int IntKind.i64 (k + sumI taskC (List.take n xs) + (1 : Int)))]), .call (V.i (k + sumI taskC (List.take n xs) + (1 : Int) + (1 : Int) + (↑(List.length (Task.deps y1)) : Int))) ([[V.own [false] (List.map intT (mkL (fun k x => k) (fun x => (1 : Int)) (k + sumI taskC (List.take n xs) + (1 : Int) + (1 : Int)) (Task.deps y1)))], []]), .x ([T.v (Value.string (markT (k + sumI taskC (List.take n xs)))), T.v (Value.int IntKind.i64 (k + sumI taskC (List.take n xs) + (1 : Int))), T.hole])] ?_
  conv => whnf
  refine ⟨⟨I, I, ⟨rfl, (by simp only [List.length_map, List.length_append, List.length_set, List.length_replicate, List.length_cons, List.length_nil, List.length_take, List.length_drop, fill_len, fillI_len, List.length_range, bytesT_len]; omega)⟩, I, getset (by simp only [List.length_map, List.length_append, List.length_set, List.length_replicate, List.length_cons, List.length_nil, List.length_take, List.length_drop, fill_len, fillI_len, List.length_range, bytesT_len]; omega), I, ⟨⟨⟨getset (by simp only [List.length_map, List.length_append, List.length_set, List.length_replicate, List.length_cons, List.length_nil, List.length_take, List.length_drop, fill_len, fillI_len, List.length_range, bytesT_len]; omega), I⟩, I, I⟩, I, ⟨I, ⟨I, I⟩, I⟩, ⟨⟨getset (by simp only [List.length_map, List.length_append, List.length_set, List.length_replicate, List.length_cons, List.length_nil, List.length_take, List.length_drop, fill_len, fillI_len, List.length_range, bytesT_len]; omega), I⟩, I⟩, Go.K.c_laws_markIntS _ _ (by omega) (by omega) (by omega)⟩, I, I⟩, ?_⟩
  refine rg [.i ((↑n : Int) + (1 : Int))] ?_
  conv => whnf
  refine ⟨⟨I, w64 (by omega) (by omega), I, I⟩, ?_⟩
  rotate_left 1
  replace h1 := df h1
  simp only [List.length_map] at h1
  refine W.exit ?_
  refine g 5 35 [] ?_
  conv => whnf
  refine ⟨⟨I, I, I⟩, ?_⟩
  refine W.ret ?_
  refine EndsW.rt ?_
  conv => whnf
  refine ⟨⟨I, I, I⟩, ?_, ?_⟩
  rotate_left 1
  rotate_left 1
  · refine ⟨n + 1, [some 35], [], ⟨rfl, ⟨rfl, (congrArg (fun z => V.t (T.v (Value.int _ z))) (by rw [sum_take (by assumption)]; omega)), rfl, rfl, I⟩, ⟨⟨rfl, ⟨(congrArg (V.own _) (by simp only [List.set_set]; exact mkN_setm (f := taskMk) (c := taskC) (by assumption))), I⟩⟩, I⟩, I⟩, ?_, ?_⟩
    rotate_left 1
    (dsimp only; omega)
    dsimp only
    omega
  · rw [take_all (by omega)]
  · rw [mkN_all taskMk taskC k xs (n := n) (by omega)]
def planTop (k : Int) (x : Plan) : Plan := ⟨mkL taskMk taskC (k) x.tasks⟩
def planTopC (x : Plan) : Int := sumI taskC x.tasks
theorem planTopC_nn (x : Plan) : 0 ≤ planTopC x := by
  have := sum_nn taskC_nn x.tasks
  simp only [planTopC]; omega
theorem c_laws_markPlan (x : Plan) (k : Int) (hl : x.tasks.length ≤ 9223372036854775806) (h0 : 0 ≤ k) (hk : k + planTopC x ≤ 1099511627776) : F n_laws_markPlan [.bor (planO x), .val (.i k)] (.i (k + planTopC x)) [cellsOf (planO (planTop k x)), []] := by
  have hn0 := sum_nn taskC_nn x.tasks
  have hz : planTopC x = _ := rfl
  simp only [planTopC] at hz
  refine i_laws_markPlan ?_
  conv => whnf
  refine g 0 1 [] ?_
  conv => whnf
  refine ⟨⟨I, I, I⟩, ?_⟩
  refine g 5 9 [.call (V.i (k + sumI taskC (Plan.tasks x))) ([[V.own taskK (List.map taskT (mkL taskMk taskC k (Plan.tasks x)))], []])] ?_
  conv => whnf
  refine ⟨⟨I, I, I, ⟨⟨⟨I, I⟩, I, I⟩, I, ⟨I, ⟨I, I⟩, I⟩, ⟨I, I⟩, Go.K.c_laws_markTaskS _ _ (by assumption) (by assumption) (by assumption)⟩, I, I⟩, ?_⟩
  refine g 1 3 [] ?_
  conv => whnf
  refine ⟨⟨I, I, I⟩, ?_⟩
  refine W.ret ?_
  refine EndsW.rt ?_
  conv => whnf
  refine ⟨⟨I, I, I⟩, ?_, rfl⟩
  rfl
end Go.K

end

section
set_option linter.unusedVariables false
set_option linter.unusedSimpArgs false
set_option maxHeartbeats 4000000
set_option maxRecDepth 20000
open Go Go.Tm Go.Proofs
namespace Go.K
theorem planC_le {p : Plan} (h : planSz p ≤ 1048576) : p.tasks.length ≤ 1048576 ∧ planTopC p ≤ 4194304 := by
  have hn := sum_nn taskSz_nn p.tasks
  have e : planSz p = p.tasks.length + sumI taskSz p.tasks := rfl
  refine ⟨by omega, ?_⟩
  have : ∀ xs : List Task, sumI taskC xs ≤ 2 * xs.length + sumI taskSz xs := by
    intro xs
    induction xs with
    | nil => simp [sumI]
    | cons x xs ih =>
      have := taskC_eq x
      have e : taskSz x = x.name.size + x.deps.length := rfl
      simp only [sumI, List.length_cons]; omega
  have := this p.tasks
  unfold planTopC; omega
end Go.K

end

section
set_option linter.unusedVariables false
set_option linter.unusedSimpArgs false
set_option maxHeartbeats 8000000
set_option maxRecDepth 20000
open Go Go.Tm Go.Proofs
namespace Go.K
theorem boss_bounds {b : Boss} (h : bossSz b ≤ 1048576) : b.log.safe.length ≤ 1048576 ∧ b.log.loose.length ≤ 1048576 ∧ (∀ s ∈ b.log.safe ++ b.log.loose, s.size ≤ 281474976710656) ∧ b.results.length ≤ 1048576 ∧ b.jobs.length ≤ 1048576 ∧ b.seats.length ≤ 1048576 ∧ b.owed.length ≤ 1048576 := by
  have h1 := totS_nn b.log.safe
  have h2 := totS_nn b.log.loose
  have h3 := totS_nn b.results
  have e : logSz b.log = (b.log.safe.length + totS b.log.safe) + (b.log.loose.length + totS b.log.loose) := rfl
  simp only [bossSz] at h
  refine ⟨by omega, by omega, fun s hs => ?_, by omega, by omega, by omega, by omega⟩
  rcases List.mem_append.1 hs with hs | hs
  · have := totS_mem hs; omega
  · have := totS_mem hs; omega
end Go.K

end

section
set_option linter.unusedVariables false
set_option linter.unusedSimpArgs false
set_option maxHeartbeats 4000000
set_option maxRecDepth 20000
open Go Go.Tm Go.Proofs
namespace Go.K
def jobC (x : Job) : Int := 3
theorem jobC_eq (x : Job) : jobC x = 3 := rfl
theorem jobC_nn (x : Job) : 0 ≤ jobC x := by
  simp only [jobC]; omega
def jobMk (k : Int) (x : Job) : Job := ⟨k, k + 1, k + 1 + 1⟩
def seatC (x : Seat) : Int := 2
theorem seatC_eq (x : Seat) : seatC x = 2 := rfl
theorem seatC_nn (x : Seat) : 0 ≤ seatC x := by
  simp only [seatC]; omega
def seatMk (k : Int) (x : Seat) : Seat := ⟨decide (Int.tmod (k) 3 = 0), k + 1⟩
def owedC (x : Owed) : Int := 3
theorem owedC_eq (x : Owed) : owedC x = 3 := rfl
theorem owedC_nn (x : Owed) : 0 ≤ owedC x := by
  simp only [owedC]; omega
def owedMk (k : Int) (x : Owed) : Owed := ⟨k, k + 1, k + 1 + 1⟩
theorem c_laws_markJobS (xs : List Job) (k : Int) (hl : xs.length ≤ 9223372036854775806) (h0 : 0 ≤ k) (hk : k + sumI jobC xs ≤ 1099511627776) : F n_laws_markJobS [.bor (.own jobK (xs.map jobT)), .val (.i k)] (.i (k + sumI jobC xs)) [[.own jobK ((mkL jobMk jobC k xs).map jobT)], []] := by
  refine i_laws_markJobS ?_
  conv => whnf
  refine g 0 0 [] ?_
  conv => whnf
  refine ⟨⟨I, I⟩, ?_⟩
  refine W.sq ?_
  refine g 0 0 [] ?_
  conv => whnf
  refine ⟨⟨I, I⟩, ?_⟩
  refine W.blk ?_
  refine W.lp (fun s (n : Nat) => ⟨[(0, s.s 0), (1, .i (k + sumI jobC (xs.take n))), (4, s.s 4), (5, .i n)], [(34, [.own jobK ((mkN jobMk jobC k xs n).map jobT)])], []⟩) (fun (n : Nat) => n ≤ xs.length) (fun (n : Nat) => xs.length - n) (0) [some 34] [] ⟨rfl, ⟨rfl, (congrArg (fun z => V.t (T.v (Value.int _ z))) (by simp [sumI])), rfl, rfl, I⟩, ⟨⟨rfl, ⟨rfl, I⟩⟩, I⟩, I⟩ (by omega) ?_
  intro n hn
  have hx := mkN_len jobMk jobC k xs n
  have hq := sum_nn jobC_nn (xs.take n)
  have hle := sum_le jobC_nn xs (n + 1)
  have hle0 := sum_le jobC_nn xs n
  conv => whnf
  refine W.sq ?_
  refine g 6 9 [] ?_
  conv => whnf
  refine ⟨⟨I, I, I, I, I⟩, ?_⟩
  refine W.cn ?_
  conv => whnf
  refine ⟨fun h1 => ?_, fun h1 => ?_⟩
  replace h1 := dt h1
  simp only [List.length_map] at h1
  refine W.skip ?_
  refine W.sq ?_
  refine W.blk ?_
  obtain ⟨y1, hy1⟩ := some_at (xs := xs) (n := n) (by omega)
  have hk1 := sum_take (f := jobC) hy1
  have hk2 := jobC_nn y1
  have hk3 := jobC_eq y1
  refine g 9 17 [.n (n), .x (jobT y1)] ?_
  conv => whnf
  refine ⟨⟨I, I, I, ⟨rfl, (by simp only [List.length_map, List.length_append, List.length_set, List.length_replicate, List.length_cons, List.length_nil, List.length_take, List.length_drop, fill_len, fillI_len, List.length_range, bytesT_len]; omega)⟩, I, ⟨⟨I, I⟩, mkN_getm (by assumption)⟩, I⟩, ?_⟩
  refine g 17 19 [.i (k + sumI jobC (List.take n xs) + (1 : Int))] ?_
  conv => whnf
  refine ⟨⟨I, w64 (by omega) (by omega), I, I⟩, ?_⟩
  refine g 19 24 [.n (n), .x (patch (jobT y1) ((0 : Nat) + (0 : Nat)) [T.v (Value.int IntKind.i64 (k + sumI jobC (List.take n xs)))])] ?_
  conv => whnf
  refine ⟨⟨I, I, I, ⟨rfl, (by simp only [List.length_map, List.length_append, List.length_set, List.length_replicate, List.length_cons, List.length_nil, List.length_take, List.length_drop, fill_len, fillI_len, List.length_range, bytesT_len]; omega)⟩, I, ⟨⟨I, I⟩, getset (by simp only [List.length_map, List.length_append, List.length_set, List.length_replicate, List.length_cons, List.length_nil, List.length_take, List.length_drop, fill_len, fillI_len, List.length_range, bytesT_len]; omega)⟩, I⟩, ?_⟩
  rw [List.set_set]
  refine g 24 26 [.i (k + sumI jobC (List.take n xs) + (1 : Int) + (1 : Int))] ?_
  conv => whnf
  refine ⟨⟨I, w64 (by omega) (by omega), I, I⟩, ?_⟩
  refine g 26 31 [.n (n), .x (patch (patch (jobT y1) ((0 : Nat) + (0 : Nat)) [T.v (Value.int IntKind.i64 (k + sumI jobC (List.take n xs)))]) ((0 : Nat) + (1 : Nat)) [T.v (Value.int IntKind.i64 (k + sumI jobC (List.take n xs) + (1 : Int)))])] ?_
  conv => whnf
  refine ⟨⟨I, I, I, ⟨rfl, (by simp only [List.length_map, List.length_append, List.length_set, List.length_replicate, List.length_cons, List.length_nil, List.length_take, List.length_drop, fill_len, fillI_len, List.length_range, bytesT_len]; omega)⟩, I, ⟨⟨I, I⟩, getset (by simp only [List.length_map, List.length_append, List.length_set, List.length_replicate, List.length_cons, List.length_nil, List.length_take, List.length_drop, fill_len, fillI_len, List.length_range, bytesT_len]; omega)⟩, I⟩, ?_⟩
  rw [List.set_set]
  refine rg [.i (k + sumI jobC (List.take n xs) + (1 : Int) + (1 : Int) + (1 : Int))] ?_
  conv => whnf
  refine ⟨⟨I, w64 (by omega) (by omega), I, I⟩, ?_⟩
  refine rg [.i ((↑n : Int) + (1 : Int))] ?_
  conv => whnf
  refine ⟨⟨I, w64 (by omega) (by omega), I, I⟩, ?_⟩
  rotate_left 1
  replace h1 := df h1
  simp only [List.length_map] at h1
  refine W.exit ?_
  refine g 5 34 [] ?_
  conv => whnf
  refine ⟨⟨I, I, I⟩, ?_⟩
  refine W.ret ?_
  refine EndsW.rt ?_
  conv => whnf
  refine ⟨⟨I, I, I⟩, ?_, ?_⟩
  rotate_left 1
  rotate_left 1
  · refine ⟨n + 1, [some 34], [], ⟨rfl, ⟨rfl, (congrArg (fun z => V.t (T.v (Value.int _ z))) (by rw [sum_take (by assumption)]; omega)), rfl, rfl, I⟩, ⟨⟨rfl, ⟨(congrArg (V.own _) (mkN_setm (f := jobMk) (c := jobC) (by assumption))), I⟩⟩, I⟩, I⟩, ?_, ?_⟩
    rotate_left 1
    (dsimp only; omega)
    dsimp only
    omega
  · rw [take_all (by omega)]
  · rw [mkN_all jobMk jobC k xs (n := n) (by omega)]
theorem c_laws_markSeatS (xs : List Seat) (k : Int) (hl : xs.length ≤ 9223372036854775806) (h0 : 0 ≤ k) (hk : k + sumI seatC xs ≤ 1099511627776) : F n_laws_markSeatS [.bor (.own seatK (xs.map seatT)), .val (.i k)] (.i (k + sumI seatC xs)) [[.own seatK ((mkL seatMk seatC k xs).map seatT)], []] := by
  refine i_laws_markSeatS ?_
  conv => whnf
  refine g 0 0 [] ?_
  conv => whnf
  refine ⟨⟨I, I⟩, ?_⟩
  refine W.sq ?_
  refine g 0 0 [] ?_
  conv => whnf
  refine ⟨⟨I, I⟩, ?_⟩
  refine W.blk ?_
  refine W.lp (fun s (n : Nat) => ⟨[(0, s.s 0), (1, .i (k + sumI seatC (xs.take n))), (4, s.s 4), (5, .i n)], [(29, [.own seatK ((mkN seatMk seatC k xs n).map seatT)])], []⟩) (fun (n : Nat) => n ≤ xs.length) (fun (n : Nat) => xs.length - n) (0) [some 29] [] ⟨rfl, ⟨rfl, (congrArg (fun z => V.t (T.v (Value.int _ z))) (by simp [sumI])), rfl, rfl, I⟩, ⟨⟨rfl, ⟨rfl, I⟩⟩, I⟩, I⟩ (by omega) ?_
  intro n hn
  have hx := mkN_len seatMk seatC k xs n
  have hq := sum_nn seatC_nn (xs.take n)
  have hle := sum_le seatC_nn xs (n + 1)
  have hle0 := sum_le seatC_nn xs n
  conv => whnf
  refine W.sq ?_
  refine g 6 9 [] ?_
  conv => whnf
  refine ⟨⟨I, I, I, I, I⟩, ?_⟩
  refine W.cn ?_
  conv => whnf
  refine ⟨fun h1 => ?_, fun h1 => ?_⟩
  replace h1 := dt h1
  simp only [List.length_map] at h1
  refine W.skip ?_
  refine W.sq ?_
  refine W.blk ?_
  obtain ⟨y1, hy1⟩ := some_at (xs := xs) (n := n) (by omega)
  have hk1 := sum_take (f := seatC) hy1
  have hk2 := seatC_nn y1
  have hk3 := seatC_eq y1
  refine g 9 19 [.i (Int.tmod (k + sumI seatC (List.take n xs)) (3 : Int)), .n (n), .x (seatT y1)] ?_
  conv => whnf
  refine ⟨⟨I, I, I, ⟨(by omega), rfl⟩, I, ⟨rfl, (by simp only [List.length_map, List.length_append, List.length_set, List.length_replicate, List.length_cons, List.length_nil, List.length_take, List.length_drop, fill_len, fillI_len, List.length_range, bytesT_len]; omega)⟩, I, ⟨⟨I, I⟩, mkN_getm (by assumption)⟩, I⟩, ?_⟩
  refine g 19 21 [.i (k + sumI seatC (List.take n xs) + (1 : Int))] ?_
  conv => whnf
  refine ⟨⟨I, w64 (by omega) (by omega), I, I⟩, ?_⟩
  refine g 21 26 [.n (n), .x (patch (seatT y1) ((0 : Nat) + (0 : Nat)) [T.v (Value.bool (decide (Int.tmod (k + sumI seatC (List.take n xs)) (3 : Int) = (0 : Int))))])] ?_
  conv => whnf
  refine ⟨⟨I, I, I, ⟨rfl, (by simp only [List.length_map, List.length_append, List.length_set, List.length_replicate, List.length_cons, List.length_nil, List.length_take, List.length_drop, fill_len, fillI_len, List.length_range, bytesT_len]; omega)⟩, I, ⟨⟨I, I⟩, getset (by simp only [List.length_map, List.length_append, List.length_set, List.length_replicate, List.length_cons, List.length_nil, List.length_take, List.length_drop, fill_len, fillI_len, List.length_range, bytesT_len]; omega)⟩, I⟩, ?_⟩
  rw [List.set_set]
  refine rg [.i (k + sumI seatC (List.take n xs) + (1 : Int) + (1 : Int))] ?_
  conv => whnf
  refine ⟨⟨I, w64 (by omega) (by omega), I, I⟩, ?_⟩
  refine rg [.i ((↑n : Int) + (1 : Int))] ?_
  conv => whnf
  refine ⟨⟨I, w64 (by omega) (by omega), I, I⟩, ?_⟩
  rotate_left 1
  replace h1 := df h1
  simp only [List.length_map] at h1
  refine W.exit ?_
  refine g 5 29 [] ?_
  conv => whnf
  refine ⟨⟨I, I, I⟩, ?_⟩
  refine W.ret ?_
  refine EndsW.rt ?_
  conv => whnf
  refine ⟨⟨I, I, I⟩, ?_, ?_⟩
  rotate_left 1
  rotate_left 1
  · refine ⟨n + 1, [some 29], [], ⟨rfl, ⟨rfl, (congrArg (fun z => V.t (T.v (Value.int _ z))) (by rw [sum_take (by assumption)]; omega)), rfl, rfl, I⟩, ⟨⟨rfl, ⟨(congrArg (V.own _) (mkN_setm (f := seatMk) (c := seatC) (by assumption))), I⟩⟩, I⟩, I⟩, ?_, ?_⟩
    rotate_left 1
    (dsimp only; omega)
    dsimp only
    omega
  · rw [take_all (by omega)]
  · rw [mkN_all seatMk seatC k xs (n := n) (by omega)]
theorem c_laws_markOwedS (xs : List Owed) (k : Int) (hl : xs.length ≤ 9223372036854775806) (h0 : 0 ≤ k) (hk : k + sumI owedC xs ≤ 1099511627776) : F n_laws_markOwedS [.bor (.own owedK (xs.map owedT)), .val (.i k)] (.i (k + sumI owedC xs)) [[.own owedK ((mkL owedMk owedC k xs).map owedT)], []] := by
  refine i_laws_markOwedS ?_
  conv => whnf
  refine g 0 0 [] ?_
  conv => whnf
  refine ⟨⟨I, I⟩, ?_⟩
  refine W.sq ?_
  refine g 0 0 [] ?_
  conv => whnf
  refine ⟨⟨I, I⟩, ?_⟩
  refine W.blk ?_
  refine W.lp (fun s (n : Nat) => ⟨[(0, s.s 0), (1, .i (k + sumI owedC (xs.take n))), (4, s.s 4), (5, .i n)], [(34, [.own owedK ((mkN owedMk owedC k xs n).map owedT)])], []⟩) (fun (n : Nat) => n ≤ xs.length) (fun (n : Nat) => xs.length - n) (0) [some 34] [] ⟨rfl, ⟨rfl, (congrArg (fun z => V.t (T.v (Value.int _ z))) (by simp [sumI])), rfl, rfl, I⟩, ⟨⟨rfl, ⟨rfl, I⟩⟩, I⟩, I⟩ (by omega) ?_
  intro n hn
  have hx := mkN_len owedMk owedC k xs n
  have hq := sum_nn owedC_nn (xs.take n)
  have hle := sum_le owedC_nn xs (n + 1)
  have hle0 := sum_le owedC_nn xs n
  conv => whnf
  refine W.sq ?_
  refine g 6 9 [] ?_
  conv => whnf
  refine ⟨⟨I, I, I, I, I⟩, ?_⟩
  refine W.cn ?_
  conv => whnf
  refine ⟨fun h1 => ?_, fun h1 => ?_⟩
  replace h1 := dt h1
  simp only [List.length_map] at h1
  refine W.skip ?_
  refine W.sq ?_
  refine W.blk ?_
  obtain ⟨y1, hy1⟩ := some_at (xs := xs) (n := n) (by omega)
  have hk1 := sum_take (f := owedC) hy1
  have hk2 := owedC_nn y1
  have hk3 := owedC_eq y1
  refine g 9 17 [.n (n), .x (owedT y1)] ?_
  conv => whnf
  refine ⟨⟨I, I, I, ⟨rfl, (by simp only [List.length_map, List.length_append, List.length_set, List.length_replicate, List.length_cons, List.length_nil, List.length_take, List.length_drop, fill_len, fillI_len, List.length_range, bytesT_len]; omega)⟩, I, ⟨⟨I, I⟩, mkN_getm (by assumption)⟩, I⟩, ?_⟩
  refine g 17 19 [.i (k + sumI owedC (List.take n xs) + (1 : Int))] ?_
  conv => whnf
  refine ⟨⟨I, w64 (by omega) (by omega), I, I⟩, ?_⟩
  refine g 19 24 [.n (n), .x (patch (owedT y1) ((0 : Nat) + (0 : Nat)) [T.v (Value.int IntKind.i64 (k + sumI owedC (List.take n xs)))])] ?_
  conv => whnf
  refine ⟨⟨I, I, I, ⟨rfl, (by simp only [List.length_map, List.length_append, List.length_set, List.length_replicate, List.length_cons, List.length_nil, List.length_take, List.length_drop, fill_len, fillI_len, List.length_range, bytesT_len]; omega)⟩, I, ⟨⟨I, I⟩, getset (by simp only [List.length_map, List.length_append, List.length_set, List.length_replicate, List.length_cons, List.length_nil, List.length_take, List.length_drop, fill_len, fillI_len, List.length_range, bytesT_len]; omega)⟩, I⟩, ?_⟩
  rw [List.set_set]
  refine g 24 26 [.i (k + sumI owedC (List.take n xs) + (1 : Int) + (1 : Int))] ?_
  conv => whnf
  refine ⟨⟨I, w64 (by omega) (by omega), I, I⟩, ?_⟩
  refine g 26 31 [.n (n), .x (patch (patch (owedT y1) ((0 : Nat) + (0 : Nat)) [T.v (Value.int IntKind.i64 (k + sumI owedC (List.take n xs)))]) ((0 : Nat) + (1 : Nat)) [T.v (Value.int IntKind.i64 (k + sumI owedC (List.take n xs) + (1 : Int)))])] ?_
  conv => whnf
  refine ⟨⟨I, I, I, ⟨rfl, (by simp only [List.length_map, List.length_append, List.length_set, List.length_replicate, List.length_cons, List.length_nil, List.length_take, List.length_drop, fill_len, fillI_len, List.length_range, bytesT_len]; omega)⟩, I, ⟨⟨I, I⟩, getset (by simp only [List.length_map, List.length_append, List.length_set, List.length_replicate, List.length_cons, List.length_nil, List.length_take, List.length_drop, fill_len, fillI_len, List.length_range, bytesT_len]; omega)⟩, I⟩, ?_⟩
  rw [List.set_set]
  refine rg [.i (k + sumI owedC (List.take n xs) + (1 : Int) + (1 : Int) + (1 : Int))] ?_
  conv => whnf
  refine ⟨⟨I, w64 (by omega) (by omega), I, I⟩, ?_⟩
  refine rg [.i ((↑n : Int) + (1 : Int))] ?_
  conv => whnf
  refine ⟨⟨I, w64 (by omega) (by omega), I, I⟩, ?_⟩
  rotate_left 1
  replace h1 := df h1
  simp only [List.length_map] at h1
  refine W.exit ?_
  refine g 5 34 [] ?_
  conv => whnf
  refine ⟨⟨I, I, I⟩, ?_⟩
  refine W.ret ?_
  refine EndsW.rt ?_
  conv => whnf
  refine ⟨⟨I, I, I⟩, ?_, ?_⟩
  rotate_left 1
  rotate_left 1
  · refine ⟨n + 1, [some 34], [], ⟨rfl, ⟨rfl, (congrArg (fun z => V.t (T.v (Value.int _ z))) (by rw [sum_take (by assumption)]; omega)), rfl, rfl, I⟩, ⟨⟨rfl, ⟨(congrArg (V.own _) (mkN_setm (f := owedMk) (c := owedC) (by assumption))), I⟩⟩, I⟩, I⟩, ?_, ?_⟩
    rotate_left 1
    (dsimp only; omega)
    dsimp only
    omega
  · rw [take_all (by omega)]
  · rw [mkN_all owedMk owedC k xs (n := n) (by omega)]
theorem c_laws_heldJobS (xs : List Job) (k : Int) (hl : xs.length ≤ 9223372036854775806) (h0 : 0 ≤ k) (hk : k + sumI jobC xs ≤ 1099511627776) : F n_laws_heldJobS [.val (.t (.slc jobK ((mkL jobMk jobC k xs).map jobT))), .val (.i k)] (.i (k + sumI jobC xs)) [[], []] := by
  have hx := mkL_len jobMk jobC k xs
  refine i_laws_heldJobS ?_
  conv => whnf
  refine g 0 0 [] ?_
  conv => whnf
  refine ⟨⟨I, I⟩, ?_⟩
  refine W.sq ?_
  refine g 0 0 [] ?_
  conv => whnf
  refine ⟨⟨I, I⟩, ?_⟩
  refine W.blk ?_
  refine W.lp (fun s (n : Nat) => ⟨[(0, s.s 0), (1, .i (k + sumI jobC (xs.take n))), (5, .i n)], [], []⟩) (fun (n : Nat) => n ≤ xs.length) (fun (n : Nat) => xs.length - n) (0) [] [] ⟨rfl, ⟨rfl, (congrArg (fun z => V.t (T.v (Value.int _ z))) (by simp [sumI])), rfl, I⟩, I, I⟩ (by omega) ?_
  intro n hn
  have hq := sum_nn jobC_nn (xs.take n)
  have hle := sum_le jobC_nn xs (n + 1)
  have hle0 := sum_le jobC_nn xs n
  conv => whnf
  refine W.sq ?_
  refine g 6 9 [] ?_
  conv => whnf
  refine ⟨⟨I, I, I, I, I⟩, ?_⟩
  refine W.cn ?_
  conv => whnf
  refine ⟨fun h1 => ?_, fun h1 => ?_⟩
  replace h1 := dt h1
  simp only [List.length_map] at h1
  refine W.skip ?_
  refine W.sq ?_
  refine W.blk ?_
  refine W.sq ?_
  obtain ⟨y1, hy1⟩ := some_at (xs := xs) (n := n) (by omega)
  have hk1 := sum_take (f := jobC) hy1
  have hk2 := jobC_nn y1
  have hk3 := jobC_eq y1
  have hk4 := mkL_get (f := jobMk) (c := jobC) (k := k) hy1
  refine g 9 18 [.x (jobT (jobMk (k + sumI jobC (List.take n xs)) y1))] ?_
  conv => whnf
  refine ⟨⟨I, I, ⟨(by omega), ixl (by assumption)⟩, I, I, I, I, I⟩, ?_⟩
  refine W.cn ?_
  conv => whnf
  refine ⟨noT (notF rfl), fun _ => ?_⟩
  refine W.skip ?_
  refine g 18 21 [.i (k + sumI jobC (List.take n xs) + (1 : Int))] ?_
  conv => whnf
  refine ⟨⟨I, w64 (by omega) (by omega), I, I⟩, ?_⟩
  refine W.sq ?_
  refine g 21 27 [.x (jobT (jobMk (k + sumI jobC (List.take n xs)) y1))] ?_
  conv => whnf
  refine ⟨⟨I, I, ⟨(by omega), ixl (by assumption)⟩, I, I, I, I, I⟩, ?_⟩
  refine W.cn ?_
  conv => whnf
  refine ⟨noT (notF rfl), fun _ => ?_⟩
  refine W.skip ?_
  refine g 27 30 [.i (k + sumI jobC (List.take n xs) + (1 : Int) + (1 : Int))] ?_
  conv => whnf
  refine ⟨⟨I, w64 (by omega) (by omega), I, I⟩, ?_⟩
  refine W.sq ?_
  refine g 30 36 [.x (jobT (jobMk (k + sumI jobC (List.take n xs)) y1))] ?_
  conv => whnf
  refine ⟨⟨I, I, ⟨(by omega), ixl (by assumption)⟩, I, I, I, I, I⟩, ?_⟩
  refine W.cn ?_
  conv => whnf
  refine ⟨noT (notF rfl), fun _ => ?_⟩
  refine W.skip ?_
  refine rg [.i (k + sumI jobC (List.take n xs) + (1 : Int) + (1 : Int) + (1 : Int))] ?_
  conv => whnf
  refine ⟨⟨I, w64 (by omega) (by omega), I, I⟩, ?_⟩
  refine rg [.i ((↑n : Int) + (1 : Int))] ?_
  conv => whnf
  refine ⟨⟨I, w64 (by omega) (by omega), I, I⟩, ?_⟩
  rotate_left 1
  replace h1 := df h1
  simp only [List.length_map] at h1
  refine W.exit ?_
  refine g 5 40 [] ?_
  conv => whnf
  refine ⟨⟨I, I, I⟩, ?_⟩
  refine W.ret ?_
  refine EndsW.rt ?_
  conv => whnf
  refine ⟨⟨I, I, I⟩, ?_, rfl⟩
  rotate_left 1
  · refine ⟨n + 1, [], [], ⟨rfl, ⟨rfl, (congrArg (fun z => V.t (T.v (Value.int _ z))) (by rw [sum_take (by assumption)]; omega)), rfl, I⟩, I, I⟩, ?_, ?_⟩
    rotate_left 1
    (dsimp only; omega)
    dsimp only
    omega
  · rw [take_all (by omega)]
theorem c_laws_heldSeatS (xs : List Seat) (k : Int) (hl : xs.length ≤ 9223372036854775806) (h0 : 0 ≤ k) (hk : k + sumI seatC xs ≤ 1099511627776) : F n_laws_heldSeatS [.val (.t (.slc seatK ((mkL seatMk seatC k xs).map seatT))), .val (.i k)] (.i (k + sumI seatC xs)) [[], []] := by
  have hx := mkL_len seatMk seatC k xs
  refine i_laws_heldSeatS ?_
  conv => whnf
  refine g 0 0 [] ?_
  conv => whnf
  refine ⟨⟨I, I⟩, ?_⟩
  refine W.sq ?_
  refine g 0 0 [] ?_
  conv => whnf
  refine ⟨⟨I, I⟩, ?_⟩
  refine W.blk ?_
  refine W.lp (fun s (n : Nat) => ⟨[(0, s.s 0), (1, .i (k + sumI seatC (xs.take n))), (5, .i n)], [], []⟩) (fun (n : Nat) => n ≤ xs.length) (fun (n : Nat) => xs.length - n) (0) [] [] ⟨rfl, ⟨rfl, (congrArg (fun z => V.t (T.v (Value.int _ z))) (by simp [sumI])), rfl, I⟩, I, I⟩ (by omega) ?_
  intro n hn
  have hq := sum_nn seatC_nn (xs.take n)
  have hle := sum_le seatC_nn xs (n + 1)
  have hle0 := sum_le seatC_nn xs n
  conv => whnf
  refine W.sq ?_
  refine g 6 9 [] ?_
  conv => whnf
  refine ⟨⟨I, I, I, I, I⟩, ?_⟩
  refine W.cn ?_
  conv => whnf
  refine ⟨fun h1 => ?_, fun h1 => ?_⟩
  replace h1 := dt h1
  simp only [List.length_map] at h1
  refine W.skip ?_
  refine W.sq ?_
  refine W.blk ?_
  refine W.sq ?_
  obtain ⟨y1, hy1⟩ := some_at (xs := xs) (n := n) (by omega)
  have hk1 := sum_take (f := seatC) hy1
  have hk2 := seatC_nn y1
  have hk3 := seatC_eq y1
  have hk4 := mkL_get (f := seatMk) (c := seatC) (k := k) hy1
  refine g 9 20 [.x (seatT (seatMk (k + sumI seatC (List.take n xs)) y1)), .i (Int.tmod (k + sumI seatC (List.take n xs)) (3 : Int))] ?_
  conv => whnf
  refine ⟨⟨I, I, ⟨(by omega), ixl (by assumption)⟩, I, I, I, ⟨(by omega), rfl⟩, I, I, I⟩, ?_⟩
  refine W.cn ?_
  conv => whnf
  refine ⟨noT (notF rfl), fun _ => ?_⟩
  refine W.skip ?_
  refine g 20 23 [.i (k + sumI seatC (List.take n xs) + (1 : Int))] ?_
  conv => whnf
  refine ⟨⟨I, w64 (by omega) (by omega), I, I⟩, ?_⟩
  refine W.sq ?_
  refine g 23 29 [.x (seatT (seatMk (k + sumI seatC (List.take n xs)) y1))] ?_
  conv => whnf
  refine ⟨⟨I, I, ⟨(by omega), ixl (by assumption)⟩, I, I, I, I, I⟩, ?_⟩
  refine W.cn ?_
  conv => whnf
  refine ⟨noT (notF rfl), fun _ => ?_⟩
  refine W.skip ?_
  refine rg [.i (k + sumI seatC (List.take n xs) + (1 : Int) + (1 : Int))] ?_
  conv => whnf
  refine ⟨⟨I, w64 (by omega) (by omega), I, I⟩, ?_⟩
  refine rg [.i ((↑n : Int) + (1 : Int))] ?_
  conv => whnf
  refine ⟨⟨I, w64 (by omega) (by omega), I, I⟩, ?_⟩
  rotate_left 1
  replace h1 := df h1
  simp only [List.length_map] at h1
  refine W.exit ?_
  refine g 5 33 [] ?_
  conv => whnf
  refine ⟨⟨I, I, I⟩, ?_⟩
  refine W.ret ?_
  refine EndsW.rt ?_
  conv => whnf
  refine ⟨⟨I, I, I⟩, ?_, rfl⟩
  rotate_left 1
  · refine ⟨n + 1, [], [], ⟨rfl, ⟨rfl, (congrArg (fun z => V.t (T.v (Value.int _ z))) (by rw [sum_take (by assumption)]; omega)), rfl, I⟩, I, I⟩, ?_, ?_⟩
    rotate_left 1
    (dsimp only; omega)
    dsimp only
    omega
  · rw [take_all (by omega)]
theorem c_laws_heldOwedS (xs : List Owed) (k : Int) (hl : xs.length ≤ 9223372036854775806) (h0 : 0 ≤ k) (hk : k + sumI owedC xs ≤ 1099511627776) : F n_laws_heldOwedS [.val (.t (.slc owedK ((mkL owedMk owedC k xs).map owedT))), .val (.i k)] (.i (k + sumI owedC xs)) [[], []] := by
  have hx := mkL_len owedMk owedC k xs
  refine i_laws_heldOwedS ?_
  conv => whnf
  refine g 0 0 [] ?_
  conv => whnf
  refine ⟨⟨I, I⟩, ?_⟩
  refine W.sq ?_
  refine g 0 0 [] ?_
  conv => whnf
  refine ⟨⟨I, I⟩, ?_⟩
  refine W.blk ?_
  refine W.lp (fun s (n : Nat) => ⟨[(0, s.s 0), (1, .i (k + sumI owedC (xs.take n))), (5, .i n)], [], []⟩) (fun (n : Nat) => n ≤ xs.length) (fun (n : Nat) => xs.length - n) (0) [] [] ⟨rfl, ⟨rfl, (congrArg (fun z => V.t (T.v (Value.int _ z))) (by simp [sumI])), rfl, I⟩, I, I⟩ (by omega) ?_
  intro n hn
  have hq := sum_nn owedC_nn (xs.take n)
  have hle := sum_le owedC_nn xs (n + 1)
  have hle0 := sum_le owedC_nn xs n
  conv => whnf
  refine W.sq ?_
  refine g 6 9 [] ?_
  conv => whnf
  refine ⟨⟨I, I, I, I, I⟩, ?_⟩
  refine W.cn ?_
  conv => whnf
  refine ⟨fun h1 => ?_, fun h1 => ?_⟩
  replace h1 := dt h1
  simp only [List.length_map] at h1
  refine W.skip ?_
  refine W.sq ?_
  refine W.blk ?_
  refine W.sq ?_
  obtain ⟨y1, hy1⟩ := some_at (xs := xs) (n := n) (by omega)
  have hk1 := sum_take (f := owedC) hy1
  have hk2 := owedC_nn y1
  have hk3 := owedC_eq y1
  have hk4 := mkL_get (f := owedMk) (c := owedC) (k := k) hy1
  refine g 9 18 [.x (owedT (owedMk (k + sumI owedC (List.take n xs)) y1))] ?_
  conv => whnf
  refine ⟨⟨I, I, ⟨(by omega), ixl (by assumption)⟩, I, I, I, I, I⟩, ?_⟩
  refine W.cn ?_
  conv => whnf
  refine ⟨noT (notF rfl), fun _ => ?_⟩
  refine W.skip ?_
  refine g 18 21 [.i (k + sumI owedC (List.take n xs) + (1 : Int))] ?_
  conv => whnf
  refine ⟨⟨I, w64 (by omega) (by omega), I, I⟩, ?_⟩
  refine W.sq ?_
  refine g 21 27 [.x (owedT (owedMk (k + sumI owedC (List.take n xs)) y1))] ?_
  conv => whnf
  refine ⟨⟨I, I, ⟨(by omega), ixl (by assumption)⟩, I, I, I, I, I⟩, ?_⟩
  refine W.cn ?_
  conv => whnf
  refine ⟨noT (notF rfl), fun _ => ?_⟩
  refine W.skip ?_
  refine g 27 30 [.i (k + sumI owedC (List.take n xs) + (1 : Int) + (1 : Int))] ?_
  conv => whnf
  refine ⟨⟨I, w64 (by omega) (by omega), I, I⟩, ?_⟩
  refine W.sq ?_
  refine g 30 36 [.x (owedT (owedMk (k + sumI owedC (List.take n xs)) y1))] ?_
  conv => whnf
  refine ⟨⟨I, I, ⟨(by omega), ixl (by assumption)⟩, I, I, I, I, I⟩, ?_⟩
  refine W.cn ?_
  conv => whnf
  refine ⟨noT (notF rfl), fun _ => ?_⟩
  refine W.skip ?_
  refine rg [.i (k + sumI owedC (List.take n xs) + (1 : Int) + (1 : Int) + (1 : Int))] ?_
  conv => whnf
  refine ⟨⟨I, w64 (by omega) (by omega), I, I⟩, ?_⟩
  refine rg [.i ((↑n : Int) + (1 : Int))] ?_
  conv => whnf
  refine ⟨⟨I, w64 (by omega) (by omega), I, I⟩, ?_⟩
  rotate_left 1
  replace h1 := df h1
  simp only [List.length_map] at h1
  refine W.exit ?_
  refine g 5 40 [] ?_
  conv => whnf
  refine ⟨⟨I, I, I⟩, ?_⟩
  refine W.ret ?_
  refine EndsW.rt ?_
  conv => whnf
  refine ⟨⟨I, I, I⟩, ?_, rfl⟩
  rotate_left 1
  · refine ⟨n + 1, [], [], ⟨rfl, ⟨rfl, (congrArg (fun z => V.t (T.v (Value.int _ z))) (by rw [sum_take (by assumption)]; omega)), rfl, I⟩, I, I⟩, ?_, ?_⟩
    rotate_left 1
    (dsimp only; omega)
    dsimp only
    omega
  · rw [take_all (by omega)]
def logTop (k : Int) (x : Log) : Log := ⟨mkL (fun k _ => markT k) (fun _ => 1) (k) x.safe, mkL (fun k _ => markT k) (fun _ => 1) (k + x.safe.length) x.loose⟩
def logTopC (x : Log) : Int := x.safe.length + x.loose.length
theorem logTopC_nn (x : Log) : 0 ≤ logTopC x := by
  simp only [logTopC]; omega
theorem c_laws_markLog (x : Log) (k : Int) (hl : x.safe.length ≤ 9223372036854775806 ∧ x.loose.length ≤ 9223372036854775806) (h0 : 0 ≤ k) (hk : k + logTopC x ≤ 1099511627776) : F n_laws_markLog [.bor (logO x), .val (.i k)] (.i (k + logTopC x)) [cellsOf (logO (logTop k x)), []] := by
  obtain ⟨hl0, hl1⟩ := hl
  have hz : logTopC x = x.safe.length + x.loose.length := rfl
  refine i_laws_markLog ?_
  conv => whnf
  refine g 0 1 [] ?_
  conv => whnf
  refine ⟨⟨I, I, I⟩, ?_⟩
  refine g 5 9 [.call (V.i (k + (↑(List.length (Log.safe x)) : Int))) ([[V.own [false] (List.map strT (mkL (fun k x => markT k) (fun x => (1 : Int)) k (Log.safe x)))], []])] ?_
  conv => whnf
  refine ⟨⟨I, I, I, ⟨⟨⟨I, I⟩, I, I⟩, I, ⟨I, ⟨I, I⟩, I⟩, ⟨I, I⟩, Go.K.c_laws_markStringS _ _ (by omega) (by omega) (by omega)⟩, I, I⟩, ?_⟩
  refine g 9 13 [.call (V.i (k + (↑(List.length (Log.safe x)) : Int) + (↑(List.length (Log.loose x)) : Int))) ([[V.own [false] (List.map strT (mkL (fun k x => markT k) (fun x => (1 : Int)) (k + (↑(List.length (Log.safe x)) : Int)) (Log.loose x)))], []])] ?_
  conv => whnf
  refine ⟨⟨I, I, I, ⟨⟨⟨I, I⟩, I, I⟩, I, ⟨I, ⟨I, I⟩, I⟩, ⟨I, I⟩, Go.K.c_laws_markStringS _ _ (by omega) (by omega) (by omega)⟩, I, I⟩, ?_⟩
  refine g 1 3 [] ?_
  conv => whnf
  refine ⟨⟨I, I, I⟩, ?_⟩
  refine W.ret ?_
  refine EndsW.rt ?_
  conv => whnf
  refine ⟨⟨I, I, I⟩, ?_, rfl⟩
  exact vi (by omega)
theorem c_laws_heldLog (x : Log) (k : Int) (hl : x.safe.length ≤ 9223372036854775806 ∧ x.loose.length ≤ 9223372036854775806) (h0 : 0 ≤ k) (hk : k + logTopC x ≤ 1099511627776) : F n_laws_heldLog [.val (logR (logTop k x)), .val (.i k)] (.i (k + logTopC x)) [[], []] := by
  obtain ⟨hl0, hl1⟩ := hl
  have hz : logTopC x = x.safe.length + x.loose.length := rfl
  refine i_laws_heldLog ?_
  conv => whnf
  refine g 0 1 [] ?_
  conv => whnf
  refine ⟨⟨⟨I, I, I⟩, I, I⟩, ?_⟩
  refine g 5 9 [.call (V.i (k + (↑(List.length (Log.safe x)) : Int))) ([[], []])] ?_
  conv => whnf
  refine ⟨⟨I, I, I, ⟨⟨I, I, I⟩, I, ⟨⟨I, I⟩, ⟨I, I⟩, I⟩, ⟨I, I⟩, Go.K.c_laws_heldStringS _ _ (by omega) (by omega) (by omega)⟩, I, I⟩, ?_⟩
  refine W.sq ?_
  refine g 9 10 [] ?_
  conv => whnf
  refine ⟨⟨I, I, I⟩, ?_⟩
  refine W.cn ?_
  conv => whnf
  refine ⟨noT (decide_eq_false (by omega)), fun _ => ?_⟩
  refine W.skip ?_
  refine g 10 15 [.call (V.i (k + (↑(List.length (Log.safe x)) : Int) + (↑(List.length (Log.loose x)) : Int))) ([[], []])] ?_
  conv => whnf
  refine ⟨⟨I, I, I, ⟨⟨I, I, I⟩, I, ⟨⟨I, I⟩, ⟨I, I⟩, I⟩, ⟨I, I⟩, Go.K.c_laws_heldStringS _ _ (by omega) (by omega) (by omega)⟩, I, I⟩, ?_⟩
  refine W.sq ?_
  refine g 2 3 [] ?_
  conv => whnf
  refine ⟨⟨I, I, I⟩, ?_⟩
  refine W.cn ?_
  conv => whnf
  refine ⟨noT (decide_eq_false (by omega)), fun _ => ?_⟩
  refine W.skip ?_
  refine g 15 18 [] ?_
  conv => whnf
  refine ⟨⟨I, I, I⟩, ?_⟩
  refine W.ret ?_
  refine EndsW.rt ?_
  conv => whnf
  refine ⟨⟨I, I, I⟩, ?_, rfl⟩
  exact vi (by omega)
def bossTop (k : Int) (x : Boss) : Boss := ⟨x.workers, x.up, x.now, x.since, x.epoch, x.given, logTop (k) x.log, mkL (fun k _ => markT k) (fun _ => 1) (k + logTopC x.log) x.results, mkL jobMk jobC (k + logTopC x.log + x.results.length) x.jobs, mkL seatMk seatC (k + logTopC x.log + x.results.length + sumI jobC x.jobs) x.seats, mkL owedMk owedC (k + logTopC x.log + x.results.length + sumI jobC x.jobs + sumI seatC x.seats) x.owed⟩
def bossTopC (x : Boss) : Int := logTopC x.log + x.results.length + sumI jobC x.jobs + sumI seatC x.seats + sumI owedC x.owed
theorem c_laws_markBoss (x : Boss) (k : Int) (hl : x.log.safe.length ≤ 9223372036854775806 ∧ x.log.loose.length ≤ 9223372036854775806 ∧ x.results.length ≤ 9223372036854775806 ∧ x.jobs.length ≤ 9223372036854775806 ∧ x.seats.length ≤ 9223372036854775806 ∧ x.owed.length ≤ 9223372036854775806) (h0 : 0 ≤ k) (hk : k + bossTopC x ≤ 1099511627776) : F n_laws_markBoss [.bor (bossO x), .val (.i k)] (.i (k + bossTopC x)) [cellsOf (bossO (bossTop k x)), []] := by
  obtain ⟨hl0, hl1, hl2, hl3, hl4, hl5⟩ := hl
  have hn0 := logTopC_nn x.log
  have hn1 := sum_nn jobC_nn x.jobs
  have hn2 := sum_nn seatC_nn x.seats
  have hn3 := sum_nn owedC_nn x.owed
  have hz : bossTopC x = logTopC x.log + x.results.length + sumI jobC x.jobs + sumI seatC x.seats + sumI owedC x.owed := rfl
  refine i_laws_markBoss ?_
  conv => whnf
  refine g 0 1 [] ?_
  conv => whnf
  refine ⟨⟨⟨I, I, I, I, I, I, I⟩, I, I⟩, ?_⟩
  refine g 5 9 [.call (V.i (k + logTopC (Boss.log x))) ([cellsOf (logO (logTop k (Boss.log x))), []])] ?_
  conv => whnf
  refine ⟨⟨I, I, I, ⟨⟨⟨I, I, I⟩, I, I⟩, I, ⟨I, ⟨I, I⟩, I⟩, ⟨I, I⟩, Go.K.c_laws_markLog _ _ (by omega) (by omega) (by omega)⟩, I, I⟩, ?_⟩
  refine g 9 13 [.call (V.i (k + logTopC (Boss.log x) + (↑(List.length (Boss.results x)) : Int))) ([[V.own [false] (List.map strT (mkL (fun k x => markT k) (fun x => (1 : Int)) (k + logTopC (Boss.log x)) (Boss.results x)))], []])] ?_
  conv => whnf
  refine ⟨⟨I, I, I, ⟨⟨⟨I, I⟩, I, I⟩, I, ⟨I, ⟨I, I⟩, I⟩, ⟨I, I⟩, Go.K.c_laws_markStringS _ _ (by omega) (by omega) (by omega)⟩, I, I⟩, ?_⟩
  refine g 13 17 [.call (V.i (k + logTopC (Boss.log x) + (↑(List.length (Boss.results x)) : Int) + sumI jobC (Boss.jobs x))) ([[V.own jobK (List.map jobT (mkL jobMk jobC (k + logTopC (Boss.log x) + (↑(List.length (Boss.results x)) : Int)) (Boss.jobs x)))], []])] ?_
  conv => whnf
  refine ⟨⟨I, I, I, ⟨⟨⟨I, I⟩, I, I⟩, I, ⟨I, ⟨I, I⟩, I⟩, ⟨I, I⟩, Go.K.c_laws_markJobS _ _ (by omega) (by omega) (by omega)⟩, I, I⟩, ?_⟩
  refine g 17 21 [.call (V.i (k + logTopC (Boss.log x) + (↑(List.length (Boss.results x)) : Int) + sumI jobC (Boss.jobs x) + sumI seatC (Boss.seats x))) ([[V.own seatK (List.map seatT (mkL seatMk seatC (k + logTopC (Boss.log x) + (↑(List.length (Boss.results x)) : Int) + sumI jobC (Boss.jobs x)) (Boss.seats x)))], []])] ?_
  conv => whnf
  refine ⟨⟨I, I, I, ⟨⟨⟨I, I⟩, I, I⟩, I, ⟨I, ⟨I, I⟩, I⟩, ⟨I, I⟩, Go.K.c_laws_markSeatS _ _ (by omega) (by omega) (by omega)⟩, I, I⟩, ?_⟩
  refine g 21 25 [.call (V.i (k + logTopC (Boss.log x) + (↑(List.length (Boss.results x)) : Int) + sumI jobC (Boss.jobs x) + sumI seatC (Boss.seats x) + sumI owedC (Boss.owed x))) ([[V.own owedK (List.map owedT (mkL owedMk owedC (k + logTopC (Boss.log x) + (↑(List.length (Boss.results x)) : Int) + sumI jobC (Boss.jobs x) + sumI seatC (Boss.seats x)) (Boss.owed x)))], []])] ?_
  conv => whnf
  refine ⟨⟨I, I, I, ⟨⟨⟨I, I⟩, I, I⟩, I, ⟨I, ⟨I, I⟩, I⟩, ⟨I, I⟩, Go.K.c_laws_markOwedS _ _ (by omega) (by omega) (by omega)⟩, I, I⟩, ?_⟩
  refine g 1 3 [] ?_
  conv => whnf
  refine ⟨⟨I, I, I⟩, ?_⟩
  refine W.ret ?_
  refine EndsW.rt ?_
  conv => whnf
  refine ⟨⟨I, I, I⟩, ?_, rfl⟩
  exact vi (by omega)
theorem c_laws_heldBoss (x : Boss) (k : Int) (hl : x.log.safe.length ≤ 9223372036854775806 ∧ x.log.loose.length ≤ 9223372036854775806 ∧ x.results.length ≤ 9223372036854775806 ∧ x.jobs.length ≤ 9223372036854775806 ∧ x.seats.length ≤ 9223372036854775806 ∧ x.owed.length ≤ 9223372036854775806) (h0 : 0 ≤ k) (hk : k + bossTopC x ≤ 1099511627776) : F n_laws_heldBoss [.val (bossR (bossTop k x)), .val (.i k)] (.i (k + bossTopC x)) [[], []] := by
  obtain ⟨hl0, hl1, hl2, hl3, hl4, hl5⟩ := hl
  have hn0 := logTopC_nn x.log
  have hn1 := sum_nn jobC_nn x.jobs
  have hn2 := sum_nn seatC_nn x.seats
  have hn3 := sum_nn owedC_nn x.owed
  have hz : bossTopC x = logTopC x.log + x.results.length + sumI jobC x.jobs + sumI seatC x.seats + sumI owedC x.owed := rfl
  refine i_laws_heldBoss ?_
  conv => whnf
  refine g 0 1 [] ?_
  conv => whnf
  refine ⟨⟨⟨I, I, I, I, I, I, I, I, I, I, I, I, I⟩, I, I⟩, ?_⟩
  refine g 5 9 [.call (V.i (k + logTopC (Boss.log x))) ([[], []])] ?_
  conv => whnf
  refine ⟨⟨I, I, I, ⟨⟨I, I, I⟩, I, ⟨⟨I, I, I⟩, ⟨I, I⟩, I⟩, ⟨I, I⟩, Go.K.c_laws_heldLog _ _ (by omega) (by omega) (by omega)⟩, I, I⟩, ?_⟩
  refine W.sq ?_
  refine g 9 10 [] ?_
  conv => whnf
  refine ⟨⟨I, I, I⟩, ?_⟩
  refine W.cn ?_
  conv => whnf
  refine ⟨noT (decide_eq_false (by omega)), fun _ => ?_⟩
  refine W.skip ?_
  refine g 10 15 [.call (V.i (k + logTopC (Boss.log x) + (↑(List.length (Boss.results x)) : Int))) ([[], []])] ?_
  conv => whnf
  refine ⟨⟨I, I, I, ⟨⟨I, I, I⟩, I, ⟨⟨I, I⟩, ⟨I, I⟩, I⟩, ⟨I, I⟩, Go.K.c_laws_heldStringS _ _ (by omega) (by omega) (by omega)⟩, I, I⟩, ?_⟩
  refine W.sq ?_
  refine g 15 16 [] ?_
  conv => whnf
  refine ⟨⟨I, I, I⟩, ?_⟩
  refine W.cn ?_
  conv => whnf
  refine ⟨noT (decide_eq_false (by omega)), fun _ => ?_⟩
  refine W.skip ?_
  refine g 16 21 [.call (V.i (k + logTopC (Boss.log x) + (↑(List.length (Boss.results x)) : Int) + sumI jobC (Boss.jobs x))) ([[], []])] ?_
  conv => whnf
  refine ⟨⟨I, I, I, ⟨⟨I, I, I⟩, I, ⟨⟨I, I⟩, ⟨I, I⟩, I⟩, ⟨I, I⟩, Go.K.c_laws_heldJobS _ _ (by omega) (by omega) (by omega)⟩, I, I⟩, ?_⟩
  refine W.sq ?_
  refine g 21 22 [] ?_
  conv => whnf
  refine ⟨⟨I, I, I⟩, ?_⟩
  refine W.cn ?_
  conv => whnf
  refine ⟨noT (decide_eq_false (by omega)), fun _ => ?_⟩
  refine W.skip ?_
  refine g 22 27 [.call (V.i (k + logTopC (Boss.log x) + (↑(List.length (Boss.results x)) : Int) + sumI jobC (Boss.jobs x) + sumI seatC (Boss.seats x))) ([[], []])] ?_
  conv => whnf
  refine ⟨⟨I, I, I, ⟨⟨I, I, I⟩, I, ⟨⟨I, I⟩, ⟨I, I⟩, I⟩, ⟨I, I⟩, Go.K.c_laws_heldSeatS _ _ (by omega) (by omega) (by omega)⟩, I, I⟩, ?_⟩
  refine W.sq ?_
  refine g 27 28 [] ?_
  conv => whnf
  refine ⟨⟨I, I, I⟩, ?_⟩
  refine W.cn ?_
  conv => whnf
  refine ⟨noT (decide_eq_false (by omega)), fun _ => ?_⟩
  refine W.skip ?_
  refine g 28 33 [.call (V.i (k + logTopC (Boss.log x) + (↑(List.length (Boss.results x)) : Int) + sumI jobC (Boss.jobs x) + sumI seatC (Boss.seats x) + sumI owedC (Boss.owed x))) ([[], []])] ?_
  conv => whnf
  refine ⟨⟨I, I, I, ⟨⟨I, I, I⟩, I, ⟨⟨I, I⟩, ⟨I, I⟩, I⟩, ⟨I, I⟩, Go.K.c_laws_heldOwedS _ _ (by omega) (by omega) (by omega)⟩, I, I⟩, ?_⟩
  refine W.sq ?_
  refine g 2 3 [] ?_
  conv => whnf
  refine ⟨⟨I, I, I⟩, ?_⟩
  refine W.cn ?_
  conv => whnf
  refine ⟨noT (decide_eq_false (by omega)), fun _ => ?_⟩
  refine W.skip ?_
  refine g 33 36 [] ?_
  conv => whnf
  refine ⟨⟨I, I, I⟩, ?_⟩
  refine W.ret ?_
  refine EndsW.rt ?_
  conv => whnf
  refine ⟨⟨I, I, I⟩, ?_, rfl⟩
  exact vi (by omega)
end Go.K

end

section
set_option linter.unusedVariables false
set_option linter.unusedSimpArgs false
set_option maxHeartbeats 8000000
set_option maxRecDepth 20000
open Go Go.Tm Go.Proofs
namespace Go.K
theorem c_impl_Boss_twin (b : Boss) (h1 : b.log.safe.length ≤ 1048576) (h2 : b.log.loose.length ≤ 1048576) (h3 : b.results.length ≤ 1048576) (h4 : b.jobs.length ≤ 1048576) (h5 : b.seats.length ≤ 1048576) (h6 : b.owed.length ≤ 1048576) : F n_impl_Boss_twin [.val (bossR b)] (bossO b) [[]] := by
  refine i_impl_Boss_twin ?_
  conv => whnf
  refine g 0 0 [] ?_
  conv => whnf
  refine ⟨⟨⟨I, I, I, I, I, I, I, I, I, I, I, I, I⟩, I, I⟩, ?_⟩
  refine gd 3 13 [[], [], [], [.call (V.own [false] (List.map strT (Log.safe (Boss.log b)))) ([[]])], [], [], [], [.call (V.own [false] (List.map strT (Log.loose (Boss.log b)))) ([[]])], [], [], []] ?_
  conv => whnf
  refine ⟨⟨I, I, I, ⟨⟨I, I⟩, I, ⟨⟨I, I⟩, I⟩, ⟨I, I⟩, Go.K.c_impl_clone _ (by omega)⟩, I, I, I, ⟨⟨I, I⟩, I, ⟨⟨I, I⟩, I⟩, ⟨I, I⟩, Go.K.c_impl_clone _ (by omega)⟩, I, I, ⟨I, I, I⟩, I⟩, by kernel_rfl, ?_⟩
  refine g 13 17 [.call (V.own [false] (List.map strT (Boss.results b))) ([[]])] ?_
  conv => whnf
  refine ⟨⟨I, I, ⟨⟨I, I⟩, I, ⟨⟨I, I⟩, I⟩, ⟨I, I⟩, Go.K.c_impl_clone _ (by omega)⟩, I, ⟨I, I⟩, I⟩, ?_⟩
  refine g 17 22 [] ?_
  conv => whnf
  refine ⟨⟨I, I, I, ⟨I, I, (by simp only [List.length_map, List.length_append, List.length_set, List.length_replicate, List.length_cons, List.length_nil, List.length_take, List.length_drop, fill_len, fillI_len, List.length_range, bytesT_len]; omega)⟩, I, ⟨I, I⟩, I⟩, ?_⟩
  refine g 22 27 [] ?_
  conv => whnf
  refine ⟨⟨I, I, I, ⟨I, I, (by simp only [List.length_map, List.length_append, List.length_set, List.length_replicate, List.length_cons, List.length_nil, List.length_take, List.length_drop, fill_len, fillI_len, List.length_range, bytesT_len]; omega)⟩, I, ⟨I, I⟩, I⟩, ?_⟩
  refine g 27 32 [] ?_
  conv => whnf
  refine ⟨⟨I, I, I, ⟨I, I, (by simp only [List.length_map, List.length_append, List.length_set, List.length_replicate, List.length_cons, List.length_nil, List.length_take, List.length_drop, fill_len, fillI_len, List.length_range, bytesT_len]; omega)⟩, I, ⟨I, I⟩, I⟩, ?_⟩
  refine g 0 2 [] ?_
  conv => whnf
  refine ⟨⟨I, ⟨I, I, I, I, I, I, I, I, I, I, I, I, I⟩, I⟩, ?_⟩
  refine W.ret ?_
  refine EndsW.rt ?_
  conv => whnf
  refine ⟨⟨I, I, I, I, I, I, I, I, I, I, I, I, I, I⟩, ?_, rfl⟩
  rfl
theorem c_spec_l4Log (l : Log) (h1 : l.safe.length ≤ 1048576) (h2 : l.loose.length ≤ 1048576) : F n_spec_l4Log [.val (logR l)] (logO l) [[]] := by
  refine i_spec_l4Log ?_
  conv => whnf
  refine g 0 0 [] ?_
  conv => whnf
  refine ⟨⟨⟨I, I, I⟩, I, I⟩, ?_⟩
  refine gd 3 12 [[], [], [], [], [], [], [], [], [], []] ?_
  conv => whnf
  refine ⟨⟨I, I, I, ⟨I, I, (by simp only [List.length_map, List.length_append, List.length_set, List.length_replicate, List.length_cons, List.length_nil, List.length_take, List.length_drop, fill_len, fillI_len, List.length_range, bytesT_len]; omega)⟩, I, I, I, ⟨I, I, (by simp only [List.length_map, List.length_append, List.length_set, List.length_replicate, List.length_cons, List.length_nil, List.length_take, List.length_drop, fill_len, fillI_len, List.length_range, bytesT_len]; omega)⟩, I, ⟨I, I, I⟩, I⟩, by kernel_rfl, ?_⟩
  refine W.ret ?_
  refine EndsW.rt ?_
  conv => whnf
  refine ⟨⟨I, I, I, I⟩, ?_, rfl⟩
  rfl
theorem c_spec_l5Copy (b : Boss) (h1 : b.log.safe.length ≤ 1048576) (h2 : b.log.loose.length ≤ 1048576) (h3 : b.results.length ≤ 1048576) (h4 : b.jobs.length ≤ 1048576) (h5 : b.seats.length ≤ 1048576) (h6 : b.owed.length ≤ 1048576) : F n_spec_l5Copy [.val (bossR b)] (bossO b) [[]] := by
  have c1 := c_spec_l4Log b.log h1 h2
  refine i_spec_l5Copy ?_
  conv => whnf
  refine g 0 1 [] ?_
  conv => whnf
  refine ⟨⟨⟨I, I, I, I, I, I, I, I, I, I, I, I, I⟩, I, I⟩, ?_⟩
  refine g 3 7 [.call (logO (Boss.log b)) ([[]])] ?_
  conv => whnf
  refine ⟨⟨I, I, ⟨⟨I, I⟩, I, ⟨⟨I, I, I⟩, I⟩, ⟨I, I⟩, (by assumption)⟩, I, ⟨I, I, I⟩, I⟩, ?_⟩
  refine g 7 12 [] ?_
  conv => whnf
  refine ⟨⟨I, I, I, ⟨I, I, (by simp only [List.length_map, List.length_append, List.length_set, List.length_replicate, List.length_cons, List.length_nil, List.length_take, List.length_drop, fill_len, fillI_len, List.length_range, bytesT_len]; omega)⟩, I, ⟨I, I⟩, I⟩, ?_⟩
  refine g 12 17 [] ?_
  conv => whnf
  refine ⟨⟨I, I, I, ⟨I, I, (by simp only [List.length_map, List.length_append, List.length_set, List.length_replicate, List.length_cons, List.length_nil, List.length_take, List.length_drop, fill_len, fillI_len, List.length_range, bytesT_len]; omega)⟩, I, ⟨I, I⟩, I⟩, ?_⟩
  refine g 17 22 [] ?_
  conv => whnf
  refine ⟨⟨I, I, I, ⟨I, I, (by simp only [List.length_map, List.length_append, List.length_set, List.length_replicate, List.length_cons, List.length_nil, List.length_take, List.length_drop, fill_len, fillI_len, List.length_range, bytesT_len]; omega)⟩, I, ⟨I, I⟩, I⟩, ?_⟩
  refine g 22 27 [] ?_
  conv => whnf
  refine ⟨⟨I, I, I, ⟨I, I, (by simp only [List.length_map, List.length_append, List.length_set, List.length_replicate, List.length_cons, List.length_nil, List.length_take, List.length_drop, fill_len, fillI_len, List.length_range, bytesT_len]; omega)⟩, I, ⟨I, I⟩, I⟩, ?_⟩
  refine g 1 2 [] ?_
  conv => whnf
  refine ⟨⟨I, ⟨I, I, I, I, I, I, I, I, I, I, I, I, I⟩, I⟩, ?_⟩
  refine W.ret ?_
  refine EndsW.rt ?_
  conv => whnf
  refine ⟨⟨I, I, I, I, I, I, I, I, I, I, I, I, I, I⟩, ?_, rfl⟩
  rfl
structure BossLim (b : Boss) : Prop where
  safe : b.log.safe.length ≤ 1048576
  loose : b.log.loose.length ≤ 1048576
  all : ∀ s ∈ b.log.safe ++ b.log.loose, s.size ≤ 281474976710656
  res : b.results.length ≤ 1048576
  jobs : b.jobs.length ≤ 1048576
  seats : b.seats.length ≤ 1048576
  owed : b.owed.length ≤ 1048576
theorem boss_lim {b : Boss} (h : bossSz b ≤ 1048576) : BossLim b := by
  obtain ⟨b1, b2, b3, b4, b5, b6, b7⟩ := boss_bounds h
  exact ⟨b1, b2, b3, b4, b5, b6, b7⟩
theorem ci_valid (b : Boss) (p : Plan) (hp : planWf p) (h : BossLim b) : F n_impl_ValidBoss [.val (bossR b), .val (planR p)] (.b (decide (BossOk b p))) [[], []] := c_impl_ValidBoss b p hp h.safe h.loose h.all h.res h.jobs h.seats h.owed
theorem cs_valid (b : Boss) (p : Plan) (hp : planWf p) (h : BossLim b) : F n_spec_ValidBoss [.val (bossR b), .val (planR p)] (.b (decide (BossOk b p))) [[], []] := c_spec_ValidBoss b p hp h.safe h.loose h.all h.res h.jobs h.seats h.owed
theorem ci_twin (b : Boss) (h : BossLim b) : F n_impl_Boss_twin [.val (bossR b)] (bossO b) [[]] := c_impl_Boss_twin b h.safe h.loose h.res h.jobs h.seats h.owed
theorem cs_copy (b : Boss) (h : BossLim b) : F n_spec_l5Copy [.val (bossR b)] (bossO b) [[]] := c_spec_l5Copy b h.safe h.loose h.res h.jobs h.seats h.owed
end Go.K

end

section
set_option linter.unusedVariables false
set_option linter.unusedSimpArgs false
set_option maxHeartbeats 8000000
set_option maxRecDepth 20000
open Go Go.Tm Go.Proofs
namespace Go.K
abbrev downB (w now : Int) (safe : List ByteArray) : Boss := ⟨w, false, now, 0, 0, 0, ⟨safe, []⟩, [], [], [], []⟩
theorem down_eq {b : Boss} (hup : b.up = false) (d : DownOk b) : b = downB b.workers b.now b.log.safe := by
  obtain ⟨w, up, now, since, ep, given, ⟨safe, loose⟩, rs, js, ss, ow⟩ := b
  obtain ⟨d1, d2, d3, d4, d5, d6, d7, d8⟩ := d
  simp only at hup d1 d2 d3 d4 d5 d6 d7 d8
  subst hup d2 d3 d4
  rw [List.eq_nil_of_length_eq_zero d1, List.eq_nil_of_length_eq_zero d5, List.eq_nil_of_length_eq_zero d6, List.eq_nil_of_length_eq_zero d7, List.eq_nil_of_length_eq_zero d8]
def epE (n : Int) : Entry := ⟨1, n, 0, emp⟩
def upB (w now : Int) (safe : List ByteArray) (p : Plan) (st : Story) : Boss := ⟨w, true, now, 0, st.epoch + 1, 0, ⟨safe ++ [formS (epE (st.epoch + 1))], []⟩, st.results, List.replicate p.tasks.length noJob, List.replicate w.toNat noSeat, []⟩
def riseOk (b : Boss) (p : Plan) : Prop := b.up = false ∧ b.log.safe.length < 310 ∧ (replayP p b.log.safe).epoch < 300
noncomputable instance (b : Boss) (p : Plan) : Decidable (riseOk b p) := Classical.propDecidable _
noncomputable def riseB (b : Boss) (p : Plan) : Boss := if riseOk b p then upB b.workers b.now b.log.safe p (replayP p b.log.safe) else b
theorem rsb_no {b : Boss} {p : Plan} (h : ¬ riseOk b p) : riseB b p = b := if_neg h
theorem rsb_ok {b : Boss} {p : Plan} (h : riseOk b p) : riseB b p = upB b.workers b.now b.log.safe p (replayP p b.log.safe) := if_pos h
theorem rep_job (n : Nat) : (List.replicate n noJob).map jobT = List.replicate n (jobT noJob) := List.map_replicate
theorem rep_seat (n : Nat) : (List.replicate n noSeat).map seatT = List.replicate n (seatT noSeat) := List.map_replicate
theorem rep_stepJ (n : Nat) : (List.replicate n noJob).map jobT ++ [jobT noJob] = (List.replicate (n + 1) noJob).map jobT := by simp [List.replicate_succ']
theorem rep_stepS (n : Nat) : (List.replicate n noSeat).map seatT ++ [seatT noSeat] = (List.replicate (n + 1) noSeat).map seatT := by simp [List.replicate_succ']
theorem up_cells (w now : Int) (safe : List ByteArray) (p : Plan) (st : Story) : bossO (upB w now safe p st) = .agg [.t (.i w), .t (.b true), .t (.i now), .t (.i 0), .t (.i (st.epoch + 1)), .t (.i 0), .own [false] (safe.map strT ++ [strT (formS ⟨1, st.epoch + 1, 0, emp⟩)]), .own [false] [], .own [false] (st.results.map strT), .own jobK ((List.replicate p.tasks.length noJob).map jobT), .own seatK ((List.replicate w.toNat noSeat).map seatT), .own owedK []] := by
  simp only [bossO, upB, List.map_append]; rfl
theorem c_rise_down (w now : Int) (safe : List ByteArray) (p : Plan) (hp : planWf p) (hw : 1 ≤ w ∧ w ≤ 8) (hs : ∀ s ∈ safe, s.size ≤ 281474976710656) (hc : (replayP p safe).code = 0) : F n_impl_Boss_rise [.ptr [.t (.i w), .t (.b false), .t (.i now), .t (.i 0), .t (.i 0), .t (.i 0), .own [false] (safe.map strT), .own [false] [], .own [false] [], .own jobK [], .own seatK [], .own owedK []], .val (planR p)] (.tup []) [cellsOf (bossO (riseB (downB w now safe) p)), []] := by
  obtain ⟨hck, hl, _, _⟩ := replay_len hc
  obtain ⟨he1, he2⟩ := replay_ep hc
  have hpl := (chk_inv hck).1
  have cr := c_impl_Replay p safe hp hs (by omega)
  by_cases hl2 : safe.length < 310
  · by_cases he : (replayP p safe).epoch < 300
    · rw [rsb_ok ⟨rfl, hl2, he⟩]
      have cf := c_impl_FormEntry 1 ((replayP p safe).epoch + 1) 0 emp (by decide)
      rw [form_eq] at cf
      rw [up_cells]
      refine i_impl_Boss_rise ?_
      conv => whnf
      refine g 0 0 [] ?_
      conv => whnf
      refine ⟨⟨⟨I, I⟩, I⟩, ?_⟩
      refine W.sq ?_
      refine g 5 17 [.b (false), .b (false), .b (false), .b (false), .b (false), .b (false), .b (false), .b (false)] ?_
      conv => whnf
      refine ⟨⟨I, I, I, I, I, ⟨rfl, I⟩, ⟨rfl, I⟩, ⟨rfl, I⟩, ⟨rfl, I⟩, ⟨rfl, I⟩, ⟨rfl, I⟩, ⟨rfl, I⟩, rfl, I⟩, ?_⟩
      refine W.cn ?_
      conv => whnf
      refine ⟨fun h1 => ?_, fun h1 => ?_⟩
      replace h1 := dt h1
      simp only [List.length_map] at h1
      omega
      replace h1 := df h1
      simp only [List.length_map] at h1
      refine W.skip ?_
      refine gd 17 25 [[], [], [], [], [], [], [.call (storyO (replayP p safe)) ([[], []])], [], []] ?_
      conv => whnf
      refine ⟨⟨I, I, I, I, I, I, ⟨⟨I, I, I⟩, I, ⟨⟨I, I⟩, ⟨I, I⟩, I⟩, ⟨I, I⟩, (by assumption)⟩, I, ⟨I, I, I, I⟩, I⟩, by kernel_rfl, ?_⟩
      refine W.sq ?_
      refine g 25 27 [] ?_
      conv => whnf
      refine ⟨⟨I, I, I, I⟩, ?_⟩
      refine W.cn ?_
      conv => whnf
      refine ⟨noT (decide_eq_false (by omega)), fun _ => ?_⟩
      refine W.skip ?_
      refine gd 4 42 [[], [], [], [], [], [.i (Story.epoch (replayP p safe) + (1 : Int))], [], [], [], [], [], [], [], [], [], [], []] ?_
      conv => whnf
      refine ⟨⟨I, I, I, I, I, w64 (by omega) (by omega), I, I, I, I, ⟨I, I⟩, I, I, ⟨I, I⟩, I, I, ⟨I, I⟩, I⟩, by kernel_rfl, ?_⟩
      refine gd 42 59 [[], [], [], [], [], [], [], [], [], [], [], [.call (V.s (formS { kind := (1 : Int), epoch := Story.epoch (replayP p safe) + (1 : Int), task := (0 : Int), text := emp : Entry })) ([[]])], [], [], [], [], [], []] ?_
      conv => whnf
      refine ⟨⟨I, I, I, I, I, I, I, I, I, I, I, ⟨⟨I, I⟩, I, ⟨⟨I, I, I, I, I⟩, I⟩, ⟨I, I⟩, (by assumption)⟩, ⟨⟨I, I⟩, I⟩, ⟨I, I, (by simp only [List.length_map, List.length_append, List.length_set, List.length_replicate, List.length_cons, List.length_nil, List.length_take, List.length_drop, fill_len, fillI_len, List.length_range, bytesT_len]; omega)⟩, I, I, I, ⟨I, I⟩, I⟩, by kernel_rfl, ?_⟩
      refine rgd [[], [], [], [], [], [.n (List.length (List.map taskT (Plan.tasks p)))], [], [], [], [], [.n (Int.toNat w)], [], [], [], [], [], []] ?_
      conv => whnf
      refine ⟨⟨I, I, I, I, I, ⟨rfl, rfl, (by simp only [List.length_map, List.length_append, List.length_set, List.length_replicate, List.length_cons, List.length_nil, List.length_take, List.length_drop, fill_len, fillI_len, List.length_range, bytesT_len]; omega)⟩, I, I, I, I, ⟨(by omega), (by omega), (by simp only [List.length_map, List.length_append, List.length_set, List.length_replicate, List.length_cons, List.length_nil, List.length_take, List.length_drop, fill_len, fillI_len, List.length_range, bytesT_len]; omega)⟩, I, I, ⟨I, I⟩, I, I, ⟨I, I⟩, I⟩, by kernel_rfl, ?_⟩
      refine EndsW.nm ?_
      conv => whnf
      refine ⟨I, ?_, ?_⟩
      rfl
      simp only [List.length_map, rep_job, rep_seat]
      rfl
    · rw [rsb_no (fun q => he q.2.2)]
      refine i_impl_Boss_rise ?_
      conv => whnf
      refine g 0 0 [] ?_
      conv => whnf
      refine ⟨⟨⟨I, I⟩, I⟩, ?_⟩
      refine W.sq ?_
      refine g 5 17 [.b (false), .b (false), .b (false), .b (false), .b (false), .b (false), .b (false), .b (false)] ?_
      conv => whnf
      refine ⟨⟨I, I, I, I, I, ⟨rfl, I⟩, ⟨rfl, I⟩, ⟨rfl, I⟩, ⟨rfl, I⟩, ⟨rfl, I⟩, ⟨rfl, I⟩, ⟨rfl, I⟩, rfl, I⟩, ?_⟩
      refine W.cn ?_
      conv => whnf
      refine ⟨fun h1 => ?_, fun h1 => ?_⟩
      replace h1 := dt h1
      simp only [List.length_map] at h1
      omega
      replace h1 := df h1
      simp only [List.length_map] at h1
      refine W.skip ?_
      refine gd 17 25 [[], [], [], [], [], [], [.call (storyO (replayP p safe)) ([[], []])], [], []] ?_
      conv => whnf
      refine ⟨⟨I, I, I, I, I, I, ⟨⟨I, I, I⟩, I, ⟨⟨I, I⟩, ⟨I, I⟩, I⟩, ⟨I, I⟩, (by assumption)⟩, I, ⟨I, I, I, I⟩, I⟩, by kernel_rfl, ?_⟩
      refine W.sq ?_
      refine g 25 27 [] ?_
      conv => whnf
      refine ⟨⟨I, I, I, I⟩, ?_⟩
      refine W.cn ?_
      conv => whnf
      refine ⟨fun _ => ?_, noF (decide_eq_true (by omega))⟩
      refine W.ret ?_
      refine EndsW.rt ?_
      conv => whnf
      refine ⟨I, ?_, rfl⟩
      rfl
  · rw [rsb_no (fun q => hl2 q.2.1)]
    refine i_impl_Boss_rise ?_
    conv => whnf
    refine g 0 0 [] ?_
    conv => whnf
    refine ⟨⟨⟨I, I⟩, I⟩, ?_⟩
    refine W.sq ?_
    refine g 5 17 [.b (false), .b (false), .b (false), .b (false), .b (false), .b (false), .b (false), .b (false)] ?_
    conv => whnf
    refine ⟨⟨I, I, I, I, I, ⟨rfl, I⟩, ⟨rfl, I⟩, ⟨rfl, I⟩, ⟨rfl, I⟩, ⟨rfl, I⟩, ⟨rfl, I⟩, ⟨rfl, I⟩, rfl, I⟩, ?_⟩
    refine W.cn ?_
    conv => whnf
    refine ⟨fun h1 => ?_, fun h1 => ?_⟩
    replace h1 := dt h1
    simp only [List.length_map] at h1
    refine W.ret ?_
    refine EndsW.rt ?_
    conv => whnf
    refine ⟨I, ?_, rfl⟩
    rfl
    replace h1 := df h1
    simp only [List.length_map] at h1
    omega
theorem c_impl_Boss_rise (b : Boss) (p : Plan) (hp : planWf p) (hw : 1 ≤ b.workers ∧ b.workers ≤ 8) (hs : ∀ s ∈ b.log.safe, s.size ≤ 281474976710656) (hd : b.up = false → DownOk b ∧ (replayP p b.log.safe).code = 0) : F n_impl_Boss_rise [.ptr (cellsOf (bossO b)), .val (planR p)] (.tup []) [cellsOf (bossO (riseB b p)), []] := by
  by_cases hup : b.up = false
  · obtain ⟨d, hc⟩ := hd hup
    have e := down_eq hup d
    have : F n_impl_Boss_rise [.ptr (cellsOf (bossO (downB b.workers b.now b.log.safe))), .val (planR p)] (.tup []) [cellsOf (bossO (riseB (downB b.workers b.now b.log.safe) p)), []] := c_rise_down b.workers b.now b.log.safe p hp hw hs hc
    rw [← e] at this
    exact this
  · rw [rsb_no (fun q => hup q.1)]
    refine i_impl_Boss_rise ?_
    conv => whnf
    refine g 0 0 [] ?_
    conv => whnf
    refine ⟨⟨⟨I, I⟩, I⟩, ?_⟩
    refine W.sq ?_
    refine g 5 17 [.b (true), .b (true), .b (true), .b (true), .b (true), .b (true), .b (true), .b (true)] ?_
    conv => whnf
    refine ⟨⟨I, I, I, I, I, (by simp [*]), (by simp [*]), (by simp [*]), (by simp [*]), (by simp [*]), (by simp [*]), (by simp [*]), (by simp [*]), I⟩, ?_⟩
    refine W.cn ?_
    conv => whnf
    refine ⟨fun _ => ?_, noF (rfl)⟩
    refine W.ret ?_
    refine EndsW.rt ?_
    conv => whnf
    refine ⟨I, ?_, rfl⟩
    rfl
theorem c_l5Rise_down (w now : Int) (safe : List ByteArray) (p : Plan) (hp : planWf p) (hw : 1 ≤ w ∧ w ≤ 8) (hs : ∀ s ∈ safe, s.size ≤ 281474976710656) (hc : (replayP p safe).code = 0) : F n_spec_l5Rise [.val (.agg [.t (.i w), .t (.b false), .t (.i now), .t (.i 0), .t (.i 0), .t (.i 0), .t (.slc [false] (safe.map strT)), .t (.slc [false] []), .t (.slc [false] []), .t (.slc jobK []), .t (.slc seatK []), .t (.slc owedK [])]), .val (planR p)] (bossO (riseB (downB w now safe) p)) [[], []] := by
  obtain ⟨hck, hl, _, _⟩ := replay_len hc
  obtain ⟨he1, he2⟩ := replay_ep hc
  have hpl := (chk_inv hck).1
  have cr := c_spec_Replay p safe hp hs (by omega)
  have cc := c_spec_l5Copy (downB w now safe) (by show safe.length ≤ 1048576; omega) (Nat.zero_le _) (Nat.zero_le _) (Nat.zero_le _) (Nat.zero_le _) (Nat.zero_le _)
  by_cases hl2 : safe.length < 310
  · by_cases he : (replayP p safe).epoch < 300
    · rw [rsb_ok ⟨rfl, hl2, he⟩]
      have cf := c_spec_FormEntry 1 ((replayP p safe).epoch + 1) 0 emp (by decide)
      refine i_spec_l5Rise ?_
      conv => whnf
      refine g 0 0 [] ?_
      conv => whnf
      refine ⟨⟨⟨I, I, I, I, I, I, I, I, I, I, I, I, I⟩, ⟨I, I⟩, I, I⟩, ?_⟩
      refine g 10 14 [.call (storyO (replayP p safe)) ([[], []])] ?_
      conv => whnf
      refine ⟨⟨I, I, I, I, ⟨⟨I, I, I⟩, I, ⟨⟨I, I⟩, ⟨I, I⟩, I⟩, ⟨I, I⟩, (by assumption)⟩, I, ⟨I, I, I, I⟩, I⟩, ?_⟩
      refine W.sq ?_
      by_cases h1 : (310 : Int) ≤ (↑(List.length (List.map strT safe)) : Int)
      simp only [List.length_map] at h1
      omega
      simp only [List.length_map] at h1
      refine g 9 27 [.b (false), .b (false), .b (false), .b (false), .b (false), .b (false), .b (false), .b (false), .b (false), .b (false)] ?_
      conv => whnf
      refine ⟨⟨I, I, I, ⟨rfl, I⟩, ⟨rfl, I⟩, ⟨rfl, I⟩, ⟨rfl, I⟩, ⟨rfl, I⟩, rfl, I, ⟨(by simp [*]), I⟩, ⟨(by simp [*]), I⟩, ⟨(by simp [*]), I⟩, (by simp [*]), I⟩, ?_⟩
      refine W.cn ?_
      conv => whnf
      refine ⟨noT (decide_eq_false (by omega)), fun _ => ?_⟩
      refine W.skip ?_
      refine g 27 40 [.i (Story.epoch (replayP p safe) + (1 : Int))] ?_
      conv => whnf
      refine ⟨⟨I, I, I, I, I, I, w64 (by omega) (by omega), I, I, I, I, ⟨I, I, I, I, I, I, I, I, I, I, I, I, I⟩, I⟩, ?_⟩
      refine gd 41 53 [[], [], [], [], [], [], [], [], [.call (V.s (formS { kind := (1 : Int), epoch := Story.epoch (replayP p safe) + (1 : Int), task := (0 : Int), text := emp : Entry })) ([[]])], [], [], [], [], []] ?_
      conv => whnf
      refine ⟨⟨I, I, I, I, ⟨I, I, (by simp only [List.length_map, List.length_append, List.length_set, List.length_replicate, List.length_cons, List.length_nil, List.length_take, List.length_drop, fill_len, fillI_len, List.length_range, bytesT_len]; omega)⟩, I, I, I, ⟨⟨I, I⟩, I, ⟨⟨I, I, I, I, I⟩, I⟩, ⟨I, I⟩, (by assumption)⟩, ⟨⟨I, I⟩, I⟩, ⟨I, I, (by simp only [List.length_map, List.length_append, List.length_set, List.length_replicate, List.length_cons, List.length_nil, List.length_take, List.length_drop, fill_len, fillI_len, List.length_range, bytesT_len]; omega)⟩, I, I, ⟨I, I⟩, I⟩, by kernel_rfl, ?_⟩
      refine W.sq ?_
      refine g 1 2 [] ?_
      conv => whnf
      refine ⟨⟨I, I⟩, ?_⟩
      refine W.blk ?_
      refine W.lp (fun s (n : Nat) => ⟨[(0, s.s 0), (2, s.s 2), (3, s.s 3), (4, s.s 4), (6, s.s 6), (7, .i n), (40, s.s 40)], [(2, [s.c 2 0, s.c 2 1, s.c 2 2, s.c 2 3, s.c 2 4, s.c 2 5, s.c 2 6, s.c 2 7, s.c 2 8, s.c 2 9, s.c 2 10, s.c 2 11]), (3, [s.c 3 0]), (4, [s.c 4 0, s.c 4 1, s.c 4 2, s.c 4 3, s.c 4 4, s.c 4 5, s.c 4 6, s.c 4 7, s.c 4 8, s.c 4 9, s.c 4 10, s.c 4 11]), (40, [s.c 40 0]), (6, [.t (.i w), .t (.b true), .t (.i now), .t (.i 0), .t (.i ((replayP p safe).epoch + 1)), .t (.i 0), .own [false] (safe.map strT ++ [strT (formS ⟨1, (replayP p safe).epoch + 1, 0, emp⟩)]), .own [false] [], .own [false] ((replayP p safe).results.map strT), .own jobK ((List.replicate n noJob).map jobT), .own seatK ((List.replicate 0 noSeat).map seatT), .own owedK []])], []⟩) (fun (n : Nat) => n ≤ p.tasks.length) (fun (n : Nat) => p.tasks.length - n) (0) [some 2, some 3, some 4, some 40, some 6] [] ⟨rfl, ⟨⟨_, rfl, _, _, rfl, rfl, _, _, rfl, rfl, _, _, rfl, rfl, _, _, rfl, rfl, _, _, rfl, rfl, _, _, rfl, rfl, _, _, rfl, rfl, _, _, rfl, rfl, _, _, rfl, rfl, _, _, rfl, rfl, _, _, rfl, rfl, _, _, rfl, rfl, rfl⟩, rfl, rfl, rfl, rfl, rfl, rfl, I⟩, ⟨⟨rfl, ⟨rfl, ⟨rfl, ⟨rfl, ⟨rfl, ⟨rfl, ⟨rfl, ⟨rfl, ⟨rfl, ⟨rfl, ⟨rfl, ⟨rfl, ⟨rfl, I⟩⟩⟩⟩⟩⟩⟩⟩⟩⟩⟩⟩⟩, ⟨⟨rfl, ⟨rfl, I⟩⟩, ⟨⟨rfl, ⟨rfl, ⟨rfl, ⟨rfl, ⟨rfl, ⟨rfl, ⟨rfl, ⟨rfl, ⟨rfl, ⟨rfl, ⟨rfl, ⟨rfl, ⟨rfl, I⟩⟩⟩⟩⟩⟩⟩⟩⟩⟩⟩⟩⟩, ⟨⟨rfl, ⟨I, I⟩⟩, ⟨⟨rfl, ⟨rfl, ⟨rfl, ⟨rfl, ⟨rfl, ⟨rfl, ⟨rfl, ⟨rfl, ⟨rfl, ⟨rfl, ⟨rfl, ⟨rfl, ⟨rfl, I⟩⟩⟩⟩⟩⟩⟩⟩⟩⟩⟩⟩⟩, I⟩⟩⟩⟩⟩, I⟩ (by omega) ?_
      intro n hn
      conv => whnf
      refine W.sq ?_
      refine g 53 57 [] ?_
      conv => whnf
      refine ⟨⟨I, I, I, I, I, I⟩, ?_⟩
      refine W.cn ?_
      conv => whnf
      refine ⟨fun h2 => ?_, fun h2 => ?_⟩
      replace h2 := dt h2
      simp only [List.length_map] at h2
      refine W.skip ?_
      refine W.sq ?_
      refine W.blk ?_
      refine rg [] ?_
      conv => whnf
      refine ⟨⟨I, I, I, ⟨⟨I, I, I, I⟩, I⟩, ⟨I, I, (by simp only [List.length_map, List.length_append, List.length_set, List.length_replicate, List.length_cons, List.length_nil, List.length_take, List.length_drop, fill_len, fillI_len, List.length_range, bytesT_len]; omega)⟩, I, ⟨I, I⟩, I⟩, ?_⟩
      refine rg [.i ((↑n : Int) + (1 : Int))] ?_
      conv => whnf
      refine ⟨⟨I, w64 (by omega) (by omega), I, I⟩, ?_⟩
      rotate_left 1
      replace h2 := df h2
      simp only [List.length_map] at h2
      refine W.exit ?_
      refine W.sq ?_
      refine g 3 4 [] ?_
      conv => whnf
      refine ⟨⟨I, I⟩, ?_⟩
      refine W.blk ?_
      rotate_left 1
      · refine ⟨n + 1, [some 2, some 3, some 4, some 40, some 6], [], ⟨rfl, ⟨⟨_, rfl, _, _, rfl, rfl, _, _, rfl, rfl, _, _, rfl, rfl, _, _, rfl, rfl, _, _, rfl, rfl, _, _, rfl, rfl, _, _, rfl, rfl, _, _, rfl, rfl, _, _, rfl, rfl, _, _, rfl, rfl, _, _, rfl, rfl, _, _, rfl, rfl, rfl⟩, rfl, rfl, rfl, rfl, rfl, rfl, I⟩, ⟨⟨rfl, ⟨rfl, ⟨rfl, ⟨rfl, ⟨rfl, ⟨rfl, ⟨rfl, ⟨rfl, ⟨rfl, ⟨rfl, ⟨rfl, ⟨rfl, ⟨rfl, I⟩⟩⟩⟩⟩⟩⟩⟩⟩⟩⟩⟩⟩, ⟨⟨rfl, ⟨rfl, I⟩⟩, ⟨⟨rfl, ⟨rfl, ⟨rfl, ⟨rfl, ⟨rfl, ⟨rfl, ⟨rfl, ⟨rfl, ⟨rfl, ⟨rfl, ⟨rfl, ⟨rfl, ⟨rfl, I⟩⟩⟩⟩⟩⟩⟩⟩⟩⟩⟩⟩⟩, ⟨⟨rfl, ⟨I, I⟩⟩, ⟨⟨rfl, ⟨rfl, ⟨rfl, ⟨rfl, ⟨rfl, ⟨rfl, ⟨rfl, ⟨rfl, ⟨rfl, ⟨rfl, ⟨(congrArg (V.own _) (rep_stepJ n)), ⟨rfl, ⟨rfl, I⟩⟩⟩⟩⟩⟩⟩⟩⟩⟩⟩⟩⟩, I⟩⟩⟩⟩⟩, I⟩, ?_, ?_⟩
        rotate_left 1
        (dsimp only; omega)
        dsimp only
        omega
      obtain rfl : n = p.tasks.length := by omega
      refine W.lp (fun s (n : Nat) => ⟨[(0, s.s 0), (2, s.s 2), (4, s.s 4), (6, s.s 6), (8, .i n), (40, s.s 40)], [(2, [s.c 2 0, s.c 2 1, s.c 2 2, s.c 2 3, s.c 2 4, s.c 2 5, s.c 2 6, s.c 2 7, s.c 2 8, s.c 2 9, s.c 2 10, s.c 2 11]), (4, [s.c 4 0, s.c 4 1, s.c 4 2, s.c 4 3, s.c 4 4, s.c 4 5, s.c 4 6, s.c 4 7, s.c 4 8, s.c 4 9, s.c 4 10, s.c 4 11]), (40, [s.c 40 0]), (6, [.t (.i w), .t (.b true), .t (.i now), .t (.i 0), .t (.i ((replayP p safe).epoch + 1)), .t (.i 0), .own [false] (safe.map strT ++ [strT (formS ⟨1, (replayP p safe).epoch + 1, 0, emp⟩)]), .own [false] [], .own [false] ((replayP p safe).results.map strT), .own jobK ((List.replicate p.tasks.length noJob).map jobT), .own seatK ((List.replicate n noSeat).map seatT), .own owedK []])], []⟩) (fun (n : Nat) => n ≤ w.toNat) (fun (n : Nat) => w.toNat - n) (0) [some 2, some 4, some 40, some 6] [] ⟨rfl, ⟨⟨_, rfl, _, _, rfl, rfl, _, _, rfl, rfl, _, _, rfl, rfl, _, _, rfl, rfl, _, _, rfl, rfl, _, _, rfl, rfl, _, _, rfl, rfl, _, _, rfl, rfl, _, _, rfl, rfl, _, _, rfl, rfl, _, _, rfl, rfl, _, _, rfl, rfl, rfl⟩, rfl, rfl, rfl, rfl, rfl, I⟩, ⟨⟨rfl, ⟨rfl, ⟨rfl, ⟨rfl, ⟨rfl, ⟨rfl, ⟨rfl, ⟨rfl, ⟨rfl, ⟨rfl, ⟨rfl, ⟨rfl, ⟨rfl, I⟩⟩⟩⟩⟩⟩⟩⟩⟩⟩⟩⟩⟩, ⟨⟨rfl, ⟨rfl, ⟨rfl, ⟨rfl, ⟨rfl, ⟨rfl, ⟨rfl, ⟨rfl, ⟨rfl, ⟨rfl, ⟨rfl, ⟨rfl, ⟨rfl, I⟩⟩⟩⟩⟩⟩⟩⟩⟩⟩⟩⟩⟩, ⟨⟨rfl, ⟨I, I⟩⟩, ⟨⟨rfl, ⟨rfl, ⟨rfl, ⟨rfl, ⟨rfl, ⟨rfl, ⟨rfl, ⟨rfl, ⟨rfl, ⟨rfl, ⟨rfl, ⟨rfl, ⟨rfl, I⟩⟩⟩⟩⟩⟩⟩⟩⟩⟩⟩⟩⟩, I⟩⟩⟩⟩, I⟩ (by omega) ?_
      intro n hn
      conv => whnf
      refine W.sq ?_
      refine g 66 69 [] ?_
      conv => whnf
      refine ⟨⟨I, I, I, I, I⟩, ?_⟩
      refine W.cn ?_
      conv => whnf
      refine ⟨fun h3 => ?_, fun h3 => ?_⟩
      replace h3 := dt h3
      refine W.skip ?_
      refine W.sq ?_
      refine W.blk ?_
      refine rg [] ?_
      conv => whnf
      refine ⟨⟨I, I, I, ⟨⟨I, I, I⟩, I⟩, ⟨I, I, (by simp only [List.length_map, List.length_append, List.length_set, List.length_replicate, List.length_cons, List.length_nil, List.length_take, List.length_drop, fill_len, fillI_len, List.length_range, bytesT_len]; omega)⟩, I, ⟨I, I⟩, I⟩, ?_⟩
      refine rg [.i ((↑n : Int) + (1 : Int))] ?_
      conv => whnf
      refine ⟨⟨I, w64 (by omega) (by omega), I, I⟩, ?_⟩
      rotate_left 1
      replace h3 := df h3
      refine W.exit ?_
      refine g 0 3 [] ?_
      conv => whnf
      refine ⟨⟨I, ⟨I, I, I, I, I, I, I, I, I, I, I, I, I⟩, I⟩, ?_⟩
      refine W.ret ?_
      refine EndsW.rt ?_
      conv => whnf
      refine ⟨⟨I, I, I, I, I, I, I, I, I, I, I, I, I, I⟩, ?_, rfl⟩
      rotate_left 1
      · refine ⟨n + 1, [some 2, some 4, some 40, some 6], [], ⟨rfl, ⟨⟨_, rfl, _, _, rfl, rfl, _, _, rfl, rfl, _, _, rfl, rfl, _, _, rfl, rfl, _, _, rfl, rfl, _, _, rfl, rfl, _, _, rfl, rfl, _, _, rfl, rfl, _, _, rfl, rfl, _, _, rfl, rfl, _, _, rfl, rfl, _, _, rfl, rfl, rfl⟩, rfl, rfl, rfl, rfl, rfl, I⟩, ⟨⟨rfl, ⟨rfl, ⟨rfl, ⟨rfl, ⟨rfl, ⟨rfl, ⟨rfl, ⟨rfl, ⟨rfl, ⟨rfl, ⟨rfl, ⟨rfl, ⟨rfl, I⟩⟩⟩⟩⟩⟩⟩⟩⟩⟩⟩⟩⟩, ⟨⟨rfl, ⟨rfl, ⟨rfl, ⟨rfl, ⟨rfl, ⟨rfl, ⟨rfl, ⟨rfl, ⟨rfl, ⟨rfl, ⟨rfl, ⟨rfl, ⟨rfl, I⟩⟩⟩⟩⟩⟩⟩⟩⟩⟩⟩⟩⟩, ⟨⟨rfl, ⟨I, I⟩⟩, ⟨⟨rfl, ⟨rfl, ⟨rfl, ⟨rfl, ⟨rfl, ⟨rfl, ⟨rfl, ⟨rfl, ⟨rfl, ⟨rfl, ⟨rfl, ⟨(congrArg (V.own _) (rep_stepS n)), ⟨rfl, I⟩⟩⟩⟩⟩⟩⟩⟩⟩⟩⟩⟩⟩, I⟩⟩⟩⟩, I⟩, ?_, ?_⟩
        rotate_left 1
        (dsimp only; omega)
        dsimp only
        omega
      obtain rfl : n = w.toNat := by omega
      exact (up_cells w now safe p (replayP p safe)).symm
    · rw [rsb_no (fun q => he q.2.2)]
      refine i_spec_l5Rise ?_
      conv => whnf
      refine g 0 0 [] ?_
      conv => whnf
      refine ⟨⟨⟨I, I, I, I, I, I, I, I, I, I, I, I, I⟩, ⟨I, I⟩, I, I⟩, ?_⟩
      refine g 10 14 [.call (storyO (replayP p safe)) ([[], []])] ?_
      conv => whnf
      refine ⟨⟨I, I, I, I, ⟨⟨I, I, I⟩, I, ⟨⟨I, I⟩, ⟨I, I⟩, I⟩, ⟨I, I⟩, (by assumption)⟩, I, ⟨I, I, I, I⟩, I⟩, ?_⟩
      refine W.sq ?_
      by_cases h1 : (310 : Int) ≤ (↑(List.length (List.map strT safe)) : Int)
      simp only [List.length_map] at h1
      omega
      simp only [List.length_map] at h1
      refine g 9 27 [.b (false), .b (false), .b (false), .b (false), .b (false), .b (false), .b (false), .b (false), .b (false), .b (false)] ?_
      conv => whnf
      refine ⟨⟨I, I, I, ⟨rfl, I⟩, ⟨rfl, I⟩, ⟨rfl, I⟩, ⟨rfl, I⟩, ⟨rfl, I⟩, rfl, I, ⟨(by simp [*]), I⟩, ⟨(by simp [*]), I⟩, ⟨(by simp [*]), I⟩, (by simp [*]), I⟩, ?_⟩
      refine W.cn ?_
      conv => whnf
      refine ⟨fun _ => ?_, noF (decide_eq_true (by omega))⟩
      refine g 27 30 [.call (bossO (downB w now safe)) ([[]])] ?_
      conv => whnf
      refine ⟨⟨I, ⟨⟨I, I⟩, I, ⟨⟨I, I, I, I, I, I, I, I, I, I, I, I, I⟩, I⟩, ⟨I, I⟩, (by assumption)⟩, ⟨I, I, I, I, I, I, I, I, I, I, I, I, I⟩, I⟩, ?_⟩
      refine W.ret ?_
      refine EndsW.rt ?_
      conv => whnf
      refine ⟨⟨I, I, I, I, I, I, I, I, I, I, I, I, I, I⟩, ?_, rfl⟩
      rfl
  · rw [rsb_no (fun q => hl2 q.2.1)]
    refine i_spec_l5Rise ?_
    conv => whnf
    refine g 0 0 [] ?_
    conv => whnf
    refine ⟨⟨⟨I, I, I, I, I, I, I, I, I, I, I, I, I⟩, ⟨I, I⟩, I, I⟩, ?_⟩
    refine g 10 14 [.call (storyO (replayP p safe)) ([[], []])] ?_
    conv => whnf
    refine ⟨⟨I, I, I, I, ⟨⟨I, I, I⟩, I, ⟨⟨I, I⟩, ⟨I, I⟩, I⟩, ⟨I, I⟩, (by assumption)⟩, I, ⟨I, I, I, I⟩, I⟩, ?_⟩
    refine W.sq ?_
    by_cases h1 : (310 : Int) ≤ (↑(List.length (List.map strT safe)) : Int)
    simp only [List.length_map] at h1
    refine g 9 27 [.b (false), .b (false), .b (false), .b (false), .b (false), .b (false), .b (true), .b (true), .b (true), .b (true)] ?_
    conv => whnf
    refine ⟨⟨I, I, I, ⟨rfl, I⟩, ⟨rfl, I⟩, ⟨rfl, I⟩, ⟨rfl, I⟩, ⟨rfl, I⟩, rfl, I, (by simp [*]), (by simp [*]), (by simp [*]), (by simp [*]), I⟩, ?_⟩
    refine W.cn ?_
    conv => whnf
    refine ⟨fun _ => ?_, noF (rfl)⟩
    refine g 27 30 [.call (bossO (downB w now safe)) ([[]])] ?_
    conv => whnf
    refine ⟨⟨I, ⟨⟨I, I⟩, I, ⟨⟨I, I, I, I, I, I, I, I, I, I, I, I, I⟩, I⟩, ⟨I, I⟩, (by assumption)⟩, ⟨I, I, I, I, I, I, I, I, I, I, I, I, I⟩, I⟩, ?_⟩
    refine W.ret ?_
    refine EndsW.rt ?_
    conv => whnf
    refine ⟨⟨I, I, I, I, I, I, I, I, I, I, I, I, I, I⟩, ?_, rfl⟩
    rfl
    simp only [List.length_map] at h1
    omega
theorem c_spec_l5Rise (b : Boss) (p : Plan) (hp : planWf p) (h : BossLim b) (hw : 1 ≤ b.workers ∧ b.workers ≤ 8) (hc : checkPlan p.tasks = 0) (hd : b.up = false → DownOk b ∧ (replayP p b.log.safe).code = 0) : F n_spec_l5Rise [.val (bossR b), .val (planR p)] (bossO (riseB b p)) [[], []] := by
  by_cases hup : b.up = false
  · obtain ⟨d, hc2⟩ := hd hup
    have e := down_eq hup d
    have : F n_spec_l5Rise [.val (bossR (downB b.workers b.now b.log.safe)), .val (planR p)] (bossO (riseB (downB b.workers b.now b.log.safe) p)) [[], []] := c_l5Rise_down b.workers b.now b.log.safe p hp hw (fun s hs => h.all s (List.mem_append_left _ hs)) hc2
    rw [← e] at this
    exact this
  · rw [rsb_no (fun q => hup q.1)]
    have ct := cs_copy b h
    have hss : ∀ s ∈ b.log.safe, s.size ≤ 281474976710656 := fun s hs => h.all s (List.mem_append_left _ hs)
    have hs1 := h.safe
    have cr := c_spec_Replay p b.log.safe hp hss (by omega)
    refine i_spec_l5Rise ?_
    conv => whnf
    refine g 0 0 [] ?_
    conv => whnf
    refine ⟨⟨⟨I, I, I, I, I, I, I, I, I, I, I, I, I⟩, ⟨I, I⟩, I, I⟩, ?_⟩
    refine g 10 14 [.call (storyO (replayP p (Log.safe (Boss.log b)))) ([[], []])] ?_
    conv => whnf
    refine ⟨⟨I, I, I, I, ⟨⟨I, I, I⟩, I, ⟨⟨I, I⟩, ⟨I, I⟩, I⟩, ⟨I, I⟩, (by assumption)⟩, I, ⟨I, I, I, I⟩, I⟩, ?_⟩
    refine W.sq ?_
    refine g 9 27 [.b (true), .b (true), .b (true), .b (true), .b (true), .b (true), .b (true), .b (true), .b (true), .b (true)] ?_
    conv => whnf
    refine ⟨⟨I, I, I, (by simp [*]), (by simp [*]), (by simp [*]), (by simp [*]), (by simp [*]), (by simp [*]), I, rfl, rfl, rfl, rfl, I⟩, ?_⟩
    refine W.cn ?_
    conv => whnf
    refine ⟨fun _ => ?_, noF (rfl)⟩
    refine g 27 30 [.call (bossO b) ([[]])] ?_
    conv => whnf
    refine ⟨⟨I, ⟨⟨I, I⟩, I, ⟨⟨I, I, I, I, I, I, I, I, I, I, I, I, I⟩, I⟩, ⟨I, I⟩, (by assumption)⟩, ⟨I, I, I, I, I, I, I, I, I, I, I, I, I⟩, I⟩, ?_⟩
    refine W.ret ?_
    refine EndsW.rt ?_
    conv => whnf
    refine ⟨⟨I, I, I, I, I, I, I, I, I, I, I, I, I, I⟩, ?_, rfl⟩
    rfl
noncomputable def bRise (b : Boss) (p : Plan) : Boss := if BossOk b p then riseB b p else noBoss
theorem brise_ok {b : Boss} {p : Plan} (h : BossOk b p) : bRise b p = riseB b p := if_pos h
theorem brise_no {b : Boss} {p : Plan} (h : ¬ BossOk b p) : bRise b p = noBoss := if_neg h
theorem ok_down {b : Boss} {p : Plan} (h : BossOk b p) : b.up = false → DownOk b ∧ (replayP p b.log.safe).code = 0 := by
  intro hup
  have d := h.down hup
  have hc := h.code
  have e := List.eq_nil_of_length_eq_zero d.loose
  rw [bossS, e, List.append_nil] at hc
  exact ⟨d, hc⟩
theorem c_impl_BossRise (b : Boss) (p : Plan) (hp : planWf p) (h : BossLim b) : F n_impl_BossRise [.val (bossR b), .val (planR p)] (bossO (bRise b p)) [[], []] := by
  have cv := ci_valid b p hp h
  by_cases hv : BossOk b p
  · rw [decide_eq_true hv] at cv
    rw [brise_ok hv]
    have ct := ci_twin b h
    have cf := c_impl_Boss_rise b p hp hv.workers (fun s hs => h.all s (List.mem_append_left _ hs)) (ok_down hv)
    refine i_impl_BossRise ?_
    conv => whnf
    refine g 0 2 [] ?_
    conv => whnf
    refine ⟨⟨⟨I, I, I, I, I, I, I, I, I, I, I, I, I⟩, ⟨I, I⟩, I, I⟩, ?_⟩
    refine W.sq ?_
    refine g 5 8 [.call (V.b true) ([[], []])] ?_
    conv => whnf
    refine ⟨⟨I, I, ⟨⟨I, I, I⟩, I, ⟨⟨I, I, I, I, I, I, I, I, I, I, I, I, I⟩, ⟨I, I⟩, I⟩, ⟨I, I⟩, (by assumption)⟩, I, I⟩, ?_⟩
    refine W.cn ?_
    conv => whnf
    refine ⟨noT (rfl), fun _ => ?_⟩
    refine W.skip ?_
    refine g 8 12 [.call (bossO b) ([[]])] ?_
    conv => whnf
    refine ⟨⟨I, ⟨⟨I, I⟩, I, ⟨⟨I, I, I, I, I, I, I, I, I, I, I, I, I⟩, I⟩, ⟨I, I⟩, (by assumption)⟩, ⟨I, I, I, I, I, I, I, I, I, I, I, I, I⟩, I⟩, ?_⟩
    refine g 12 14 [.call (V.tup []) ([cellsOf (bossO (riseB b p)), []])] ?_
    conv => whnf
    refine ⟨⟨I, ⟨⟨I, I, I⟩, I, ⟨I, ⟨I, I⟩, I⟩, ⟨I, I⟩, (by assumption)⟩, I⟩, ?_⟩
    refine g 2 4 [] ?_
    conv => whnf
    refine ⟨⟨I, ⟨I, I, I, I, I, I, I, I, I, I, I, I, I⟩, I⟩, ?_⟩
    refine W.ret ?_
    refine EndsW.rt ?_
    conv => whnf
    refine ⟨⟨I, I, I, I, I, I, I, I, I, I, I, I, I, I⟩, ?_, rfl⟩
    rfl
  · rw [decide_eq_false hv] at cv
    rw [brise_no hv]
    refine i_impl_BossRise ?_
    conv => whnf
    refine g 0 2 [] ?_
    conv => whnf
    refine ⟨⟨⟨I, I, I, I, I, I, I, I, I, I, I, I, I⟩, ⟨I, I⟩, I, I⟩, ?_⟩
    refine W.sq ?_
    refine g 5 8 [.call (V.b false) ([[], []])] ?_
    conv => whnf
    refine ⟨⟨I, I, ⟨⟨I, I, I⟩, I, ⟨⟨I, I, I, I, I, I, I, I, I, I, I, I, I⟩, ⟨I, I⟩, I⟩, ⟨I, I⟩, (by assumption)⟩, I, I⟩, ?_⟩
    refine W.cn ?_
    conv => whnf
    refine ⟨fun _ => ?_, noF (rfl)⟩
    refine g 8 10 [] ?_
    conv => whnf
    refine ⟨⟨I, ⟨I, I, I, I, I, I, I, I, I, I, I, I, I⟩, I⟩, ?_⟩
    refine W.ret ?_
    refine EndsW.rt ?_
    conv => whnf
    refine ⟨⟨I, I, I, I, I, I, I, I, I, I, I, I, I, I⟩, ?_, rfl⟩
    rfl
theorem c_spec_BossRise (b : Boss) (p : Plan) (hp : planWf p) (h : BossLim b) : F n_spec_BossRise [.val (bossR b), .val (planR p)] (bossO (bRise b p)) [[], []] := by
  have cv := cs_valid b p hp h
  by_cases hv : BossOk b p
  · rw [decide_eq_true hv] at cv
    rw [brise_ok hv]
    have cf := c_spec_l5Rise b p hp h hv.workers hv.plan (ok_down hv)
    refine i_spec_BossRise ?_
    conv => whnf
    refine g 0 2 [] ?_
    conv => whnf
    refine ⟨⟨⟨I, I, I, I, I, I, I, I, I, I, I, I, I⟩, ⟨I, I⟩, I, I⟩, ?_⟩
    refine W.sq ?_
    refine g 5 8 [.call (V.b true) ([[], []])] ?_
    conv => whnf
    refine ⟨⟨I, I, ⟨⟨I, I, I⟩, I, ⟨⟨I, I, I, I, I, I, I, I, I, I, I, I, I⟩, ⟨I, I⟩, I⟩, ⟨I, I⟩, (by assumption)⟩, I, I⟩, ?_⟩
    refine W.cn ?_
    conv => whnf
    refine ⟨noT (rfl), fun _ => ?_⟩
    refine W.skip ?_
    refine g 8 13 [.call (bossO (riseB b p)) ([[], []])] ?_
    conv => whnf
    refine ⟨⟨I, I, ⟨⟨I, I, I⟩, I, ⟨⟨I, I, I, I, I, I, I, I, I, I, I, I, I⟩, ⟨I, I⟩, I⟩, ⟨I, I⟩, (by assumption)⟩, ⟨I, I, I, I, I, I, I, I, I, I, I, I, I⟩, I⟩, ?_⟩
    refine W.ret ?_
    refine EndsW.rt ?_
    conv => whnf
    refine ⟨⟨I, I, I, I, I, I, I, I, I, I, I, I, I, I⟩, ?_, rfl⟩
    rfl
  · rw [decide_eq_false hv] at cv
    rw [brise_no hv]
    refine i_spec_BossRise ?_
    conv => whnf
    refine g 0 2 [] ?_
    conv => whnf
    refine ⟨⟨⟨I, I, I, I, I, I, I, I, I, I, I, I, I⟩, ⟨I, I⟩, I, I⟩, ?_⟩
    refine W.sq ?_
    refine g 5 8 [.call (V.b false) ([[], []])] ?_
    conv => whnf
    refine ⟨⟨I, I, ⟨⟨I, I, I⟩, I, ⟨⟨I, I, I, I, I, I, I, I, I, I, I, I, I⟩, ⟨I, I⟩, I⟩, ⟨I, I⟩, (by assumption)⟩, I, I⟩, ?_⟩
    refine W.cn ?_
    conv => whnf
    refine ⟨fun _ => ?_, noF (rfl)⟩
    refine g 8 10 [] ?_
    conv => whnf
    refine ⟨⟨I, ⟨I, I, I, I, I, I, I, I, I, I, I, I, I⟩, I⟩, ?_⟩
    refine W.ret ?_
    refine EndsW.rt ?_
    conv => whnf
    refine ⟨⟨I, I, I, I, I, I, I, I, I, I, I, I, I, I⟩, ?_, rfl⟩
    rfl
end Go.K

end

section
set_option linter.unusedVariables false
set_option linter.unusedSimpArgs false
set_option maxHeartbeats 4000000
set_option maxRecDepth 20000
open Go Go.Tm Go.Proofs
namespace Go.K
theorem replayP_len (p : Plan) (xs : List ByteArray) : (replayP p xs).results.length ≤ 40 := by
  unfold replayP
  by_cases h : checkPlan p.tasks = 0 ∧ xs.length ≤ 310
  · rw [if_pos h]
    cases hr : runR p.tasks (some (tale0 p.tasks)) xs with
    | none => exact Nat.zero_le _
    | some t =>
      have := runR_len p.tasks xs _ _ hr
      rw [tale0, List.length_replicate] at this
      have := (chk_inv h.1).1.2
      show t.results.length ≤ 40
      omega
  · rw [if_neg h]; exact Nat.zero_le _
end Go.K

end

section
set_option linter.unusedVariables false
set_option linter.unusedSimpArgs false
set_option maxHeartbeats 8000000
set_option maxRecDepth 20000
open Go Go.Tm Go.Proofs
namespace Go.K
theorem sum_jobC : ∀ l : List Job, sumI jobC l = 3 * (l.length : Int)
  | [] => by simp [sumI]
  | x :: l => by have := sum_jobC l; simp only [sumI, jobC, List.length_cons]; omega
theorem sum_seatC : ∀ l : List Seat, sumI seatC l = 2 * (l.length : Int)
  | [] => by simp [sumI]
  | x :: l => by have := sum_seatC l; simp only [sumI, seatC, List.length_cons]; omega
theorem sum_owedC : ∀ l : List Owed, sumI owedC l = 3 * (l.length : Int)
  | [] => by simp [sumI]
  | x :: l => by have := sum_owedC l; simp only [sumI, owedC, List.length_cons]; omega
theorem bossTopC_len (x : Boss) : bossTopC x = x.log.safe.length + x.log.loose.length + x.results.length + 3 * x.jobs.length + 2 * x.seats.length + 3 * x.owed.length := by
  simp only [bossTopC, logTopC, sum_jobC, sum_seatC, sum_owedC]
structure BossSmall (b : Boss) : Prop where
  safe : b.log.safe.length ≤ 4194304
  loose : b.log.loose.length ≤ 4194304
  res : b.results.length ≤ 4194304
  jobs : b.jobs.length ≤ 4194304
  seats : b.seats.length ≤ 4194304
  owed : b.owed.length ≤ 4194304
theorem small_no : BossSmall noBoss := ⟨by decide, by decide, by decide, by decide, by decide, by decide⟩
theorem small_lim {b : Boss} (h : BossLim b) : BossSmall b := by
  obtain ⟨h1, h2, h3, h4, h5, h6, h7⟩ := h
  exact ⟨by omega, by omega, by omega, by omega, by omega, by omega⟩
theorem small_boss {b : Boss} (h : BossSmall b) : bossLen b ∧ (b.log.safe.length ≤ 9223372036854775806 ∧ b.log.loose.length ≤ 9223372036854775806 ∧ b.results.length ≤ 9223372036854775806 ∧ b.jobs.length ≤ 9223372036854775806 ∧ b.seats.length ≤ 9223372036854775806 ∧ b.owed.length ≤ 9223372036854775806) ∧ bossTopC b ≤ 100000000 ∧ 0 ≤ bossTopC b := by
  obtain ⟨h1, h2, h3, h4, h5, h6⟩ := h
  have e := bossTopC_len b
  exact ⟨⟨by omega, by omega, by omega, by omega, by omega, by omega⟩, ⟨by omega, by omega, by omega, by omega, by omega, by omega⟩, by omega, by omega⟩
theorem brise_small {b : Boss} (p : Plan) (h : BossLim b) : BossSmall (bRise b p) := by
  unfold bRise; split
  · rename_i hv
    unfold riseB; split
    · have h1 := h.safe
      have h2 := hv.workers
      have h3 := (chk_inv hv.plan).1
      have h4 := replayP_len p b.log.safe
      refine ⟨?_, Nat.zero_le _, ?_, ?_, ?_, Nat.zero_le _⟩
      · simp only [upB, List.length_append, List.length_singleton]; omega
      · simp only [upB]; omega
      · simp only [upB, List.length_replicate]; omega
      · simp only [upB, List.length_replicate]; omega
    · exact small_lim h
  · exact small_no
theorem l_FnExactBossRise (b : Boss) (hw : bossWf b) (p : Plan) (hp : planWf p) : F n_laws_FnExactBossRise [.val (bossR b), .val (planR p)] (.b true) [[], []] := by
  have c0 := c_laws_szBoss b 1048576 hw (by omega) (by omega)
  have hbn := bossSz_nn b
  by_cases hq : (1048576 : Int) - bossSz b < 0
  · rw [if_pos hq] at c0
    refine i_laws_FnExactBossRise ?_
    conv => whnf
    refine g 0 2 [] ?_
    conv => whnf
    refine ⟨⟨⟨I, I, I, I, I, I, I, I, I, I, I, I, I⟩, ⟨I, I⟩, I, I⟩, ?_⟩
    refine g 0 0 [] ?_
    conv => whnf
    refine ⟨⟨I, I⟩, ?_⟩
    refine g 14 17 [.call (V.i (-1 : Int)) ([[], []])] ?_
    conv => whnf
    refine ⟨⟨I, I, ⟨⟨I, I, I⟩, I, ⟨⟨I, I, I, I, I, I, I, I, I, I, I, I, I⟩, ⟨I, I⟩, I⟩, ⟨I, I⟩, (by assumption)⟩, I, I⟩, ?_⟩
    refine W.sq ?_
    refine g 17 18 [] ?_
    conv => whnf
    refine ⟨⟨I, I, I⟩, ?_⟩
    refine W.cn ?_
    conv => whnf
    refine ⟨fun _ => ?_, noF (rfl)⟩
    refine g 18 19 [] ?_
    conv => whnf
    refine ⟨⟨I, I⟩, ?_⟩
    refine W.ret ?_
    refine EndsW.rt ?_
    conv => whnf
    refine ⟨⟨I, I, I⟩, ?_, rfl⟩
    rfl
  · rw [if_neg hq] at c0
    have c9 := c_laws_szPlan p (1048576 - bossSz b) hp (by omega) (by omega)
    have hpn := planSz_nn p
    by_cases hq2 : (1048576 : Int) - bossSz b - planSz p < 0
    · rw [if_pos hq2] at c9
      refine i_laws_FnExactBossRise ?_
      conv => whnf
      refine g 0 2 [] ?_
      conv => whnf
      refine ⟨⟨⟨I, I, I, I, I, I, I, I, I, I, I, I, I⟩, ⟨I, I⟩, I, I⟩, ?_⟩
      refine g 0 0 [] ?_
      conv => whnf
      refine ⟨⟨I, I⟩, ?_⟩
      refine g 14 17 [.call (V.i ((1048576 : Int) - bossSz b)) ([[], []])] ?_
      conv => whnf
      refine ⟨⟨I, I, ⟨⟨I, I, I⟩, I, ⟨⟨I, I, I, I, I, I, I, I, I, I, I, I, I⟩, ⟨I, I⟩, I⟩, ⟨I, I⟩, (by assumption)⟩, I, I⟩, ?_⟩
      refine W.sq ?_
      refine g 17 18 [] ?_
      conv => whnf
      refine ⟨⟨I, I, I⟩, ?_⟩
      refine W.cn ?_
      conv => whnf
      refine ⟨noT (decide_eq_false (by omega)), fun _ => ?_⟩
      refine W.skip ?_
      refine g 18 22 [.call (V.i (-1 : Int)) ([[], []])] ?_
      conv => whnf
      refine ⟨⟨I, I, ⟨⟨I, I, I⟩, I, ⟨⟨I, I⟩, ⟨I, I⟩, I⟩, ⟨I, I⟩, (by assumption)⟩, I, I⟩, ?_⟩
      refine W.sq ?_
      refine g 5 23 [] ?_
      conv => whnf
      refine ⟨⟨I, I, I⟩, ?_⟩
      refine W.cn ?_
      conv => whnf
      refine ⟨fun _ => ?_, noF (rfl)⟩
      refine g 23 24 [] ?_
      conv => whnf
      refine ⟨⟨I, I⟩, ?_⟩
      refine W.ret ?_
      refine EndsW.rt ?_
      conv => whnf
      refine ⟨⟨I, I, I⟩, ?_, rfl⟩
      rfl
    · rw [if_neg hq2] at c9
      have hl2 := planLen_of (a := p) (by omega)
      obtain ⟨hl3, hl4⟩ := planC_le (p := p) (by omega)
      have hl6 := planTopC_nn p
      have hbl := boss_lim (b := b) (by omega)
      obtain ⟨b1, b2, b3, b4⟩ := small_boss (small_lim hbl)
      obtain ⟨r1, r2, r3, r4⟩ := small_boss (brise_small p hbl)
      refine i_laws_FnExactBossRise ?_
      conv => whnf
      refine g 0 2 [] ?_
      conv => whnf
      refine ⟨⟨⟨I, I, I, I, I, I, I, I, I, I, I, I, I⟩, ⟨I, I⟩, I, I⟩, ?_⟩
      refine g 0 0 [] ?_
      conv => whnf
      refine ⟨⟨I, I⟩, ?_⟩
      refine g 14 17 [.call (V.i ((1048576 : Int) - bossSz b)) ([[], []])] ?_
      conv => whnf
      refine ⟨⟨I, I, ⟨⟨I, I, I⟩, I, ⟨⟨I, I, I, I, I, I, I, I, I, I, I, I, I⟩, ⟨I, I⟩, I⟩, ⟨I, I⟩, (by assumption)⟩, I, I⟩, ?_⟩
      refine W.sq ?_
      refine g 17 18 [] ?_
      conv => whnf
      refine ⟨⟨I, I, I⟩, ?_⟩
      refine W.cn ?_
      conv => whnf
      refine ⟨noT (decide_eq_false (by omega)), fun _ => ?_⟩
      refine W.skip ?_
      refine g 18 22 [.call (V.i ((1048576 : Int) - bossSz b - planSz p)) ([[], []])] ?_
      conv => whnf
      refine ⟨⟨I, I, ⟨⟨I, I, I⟩, I, ⟨⟨I, I⟩, ⟨I, I⟩, I⟩, ⟨I, I⟩, (by assumption)⟩, I, I⟩, ?_⟩
      refine W.sq ?_
      refine g 5 23 [] ?_
      conv => whnf
      refine ⟨⟨I, I, I⟩, ?_⟩
      refine W.cn ?_
      conv => whnf
      refine ⟨noT (decide_eq_false (by omega)), fun _ => ?_⟩
      refine W.skip ?_
      refine gd 23 29 [[], [.call (bossO b) ([[]])], [], [.call (planO p) ([[]])], [.call (bossO (bRise b p)) ([[], []])], [], []] ?_
      conv => whnf
      refine ⟨⟨I, ⟨⟨I, I⟩, I, ⟨⟨I, I, I, I, I, I, I, I, I, I, I, I, I⟩, I⟩, ⟨I, I⟩, Go.K.c_laws_toBoss _ (by omega)⟩, I, ⟨⟨I, I⟩, I, ⟨⟨I, I⟩, I⟩, ⟨I, I⟩, Go.K.c_laws_toPlan _ (by omega)⟩, ⟨⟨I, I, I⟩, I, ⟨⟨I, I, I, I, I, I, I, I, I, I, I, I, I⟩, ⟨I, I⟩, I⟩, ⟨I, I⟩, Go.K.c_spec_BossRise _ _ (by omega) (by omega)⟩, I, ⟨I, I, I, I, I, I, I, I, I, I, I, I, I⟩, I⟩, by kernel_rfl, ?_⟩
      refine g 29 31 [.call (bossO b) ([[]])] ?_
      conv => whnf
      refine ⟨⟨I, ⟨⟨I, I⟩, I, ⟨⟨I, I, I, I, I, I, I, I, I, I, I, I, I⟩, I⟩, ⟨I, I⟩, Go.K.c_laws_toBoss _ (by omega)⟩, I, ⟨I, I, I, I, I, I, I, I, I, I, I, I, I⟩, I⟩, ?_⟩
      refine g 31 33 [.call (planO p) ([[]])] ?_
      conv => whnf
      refine ⟨⟨I, ⟨⟨I, I⟩, I, ⟨⟨I, I⟩, I⟩, ⟨I, I⟩, Go.K.c_laws_toPlan _ (by omega)⟩, I, ⟨I, I⟩, I⟩, ?_⟩
      refine g 33 36 [.call (bossO (bRise b p)) ([[], []])] ?_
      conv => whnf
      refine ⟨⟨I, I, ⟨⟨I, I, I⟩, I, ⟨⟨I, I, I, I, I, I, I, I, I, I, I, I, I⟩, ⟨I, I⟩, I⟩, ⟨I, I⟩, Go.K.c_impl_BossRise _ _ (by omega) (by omega)⟩, I, ⟨I, I, I, I, I, I, I, I, I, I, I, I, I⟩, I⟩, ?_⟩
      refine W.sq ?_
      refine g 36 39 [.call (V.b (decide (bRise b p = bRise b p))) ([[], []])] ?_
      conv => whnf
      refine ⟨⟨I, I, ⟨⟨I, I, I⟩, I, ⟨⟨I, I, I, I, I, I, I, I, I, I, I, I, I⟩, ⟨I, I, I, I, I, I, I, I, I, I, I, I, I⟩, I⟩, ⟨I, I⟩, Go.K.c_laws_eqBoss _ _ (by omega)⟩, I, I⟩, ?_⟩
      refine W.cn ?_
      conv => whnf
      refine ⟨noT (notF rfl), fun _ => ?_⟩
      refine W.skip ?_
      refine W.sq ?_
      refine gd 39 44 [[], [], [.call (bossO b) ([[]])], [.call (V.b (decide (b = b))) ([[], []])], []] ?_
      conv => whnf
      refine ⟨⟨I, I, ⟨⟨I, I⟩, I, ⟨⟨I, I, I, I, I, I, I, I, I, I, I, I, I⟩, I⟩, ⟨I, I⟩, Go.K.c_laws_toBoss _ (by omega)⟩, ⟨⟨I, I, I⟩, I, ⟨⟨I, I, I, I, I, I, I, I, I, I, I, I, I⟩, ⟨I, I, I, I, I, I, I, I, I, I, I, I, I⟩, I⟩, ⟨I, I⟩, Go.K.c_laws_eqBoss _ _ (by omega)⟩, I, I⟩, by kernel_rfl, ?_⟩
      refine W.cn ?_
      conv => whnf
      refine ⟨noT (notF rfl), fun _ => ?_⟩
      refine W.skip ?_
      refine W.sq ?_
      refine gd 44 49 [[], [], [.call (planO p) ([[]])], [.call (V.b (decide (p = p))) ([[], []])], []] ?_
      conv => whnf
      refine ⟨⟨I, I, ⟨⟨I, I⟩, I, ⟨⟨I, I⟩, I⟩, ⟨I, I⟩, Go.K.c_laws_toPlan _ (by omega)⟩, ⟨⟨I, I, I⟩, I, ⟨⟨I, I⟩, ⟨I, I⟩, I⟩, ⟨I, I⟩, Go.K.c_laws_eqPlan _ _ (by omega)⟩, I, I⟩, by kernel_rfl, ?_⟩
      refine W.cn ?_
      conv => whnf
      refine ⟨noT (notF rfl), fun _ => ?_⟩
      refine W.skip ?_
      refine g 49 50 [] ?_
      conv => whnf
      refine ⟨⟨I, I⟩, ?_⟩
      refine g 50 53 [.call (V.i ((1 : Int) + bossTopC b)) ([cellsOf (bossO (bossTop (1 : Int) b)), []])] ?_
      conv => whnf
      refine ⟨⟨I, I, ⟨⟨⟨I, I, I, I, I, I, I, I, I, I, I, I, I⟩, I, I⟩, I, ⟨I, ⟨I, I⟩, I⟩, ⟨I, I⟩, Go.K.c_laws_markBoss _ _ (by omega) (by omega) (by omega)⟩, I, I⟩, ?_⟩
      refine g 53 56 [.call (V.i ((1 : Int) + bossTopC b + planTopC p)) ([cellsOf (planO (planTop ((1 : Int) + bossTopC b) p)), []])] ?_
      conv => whnf
      refine ⟨⟨I, I, ⟨⟨⟨I, I⟩, I, I⟩, I, ⟨I, ⟨I, I⟩, I⟩, ⟨I, I⟩, Go.K.c_laws_markPlan _ _ (by omega) (by omega) (by omega)⟩, I, I⟩, ?_⟩
      refine W.sq ?_
      refine g 10 63 [.b (false), .b (false), .b (false), .call (V.b (decide (bRise b p = bRise b p))) ([[], []]), .b (false), .b (false)] ?_
      conv => whnf
      refine ⟨⟨I, I, I, ⟨decide_eq_false (by omega), I⟩, ⟨decide_eq_false (by omega), I⟩, ⟨decide_eq_false (by omega), ⟨I, I, I⟩, I, ⟨⟨I, I, I, I, I, I, I, I, I, I, I, I, I⟩, ⟨I, I, I, I, I, I, I, I, I, I, I, I, I⟩, I⟩, ⟨I, I⟩, Go.K.c_laws_eqBoss _ _ (by omega)⟩, ⟨decide_eq_false (by omega), I⟩, decide_eq_false (by omega), I⟩, ?_⟩
      refine W.cn ?_
      conv => whnf
      refine ⟨noT (by assumption), fun _ => ?_⟩
      refine W.skip ?_
      refine g 7 9 [] ?_
      conv => whnf
      refine ⟨⟨I, I⟩, ?_⟩
      refine g 63 67 [.call (V.i ((1 : Int) + bossTopC (bRise b p))) ([cellsOf (bossO (bossTop (1 : Int) (bRise b p))), []])] ?_
      conv => whnf
      refine ⟨⟨I, I, ⟨⟨⟨I, I, I, I, I, I, I, I, I, I, I, I, I⟩, I, I⟩, I, ⟨I, ⟨I, I⟩, I⟩, ⟨I, I⟩, Go.K.c_laws_markBoss _ _ (by omega) (by omega) (by omega)⟩, I, I⟩, ?_⟩
      refine g 0 0 [] ?_
      conv => whnf
      refine ⟨⟨I, I⟩, ?_⟩
      refine g 67 70 [.call (V.i ((1 : Int) + bossTopC (bRise b p))) ([[], []])] ?_
      conv => whnf
      refine ⟨⟨I, I, ⟨⟨I, I, I⟩, I, ⟨⟨I, I, I, I, I, I, I, I, I, I, I, I, I⟩, ⟨I, I⟩, I⟩, ⟨I, I⟩, Go.K.c_laws_heldBoss _ _ (by omega) (by omega) (by omega)⟩, I, I⟩, ?_⟩
      refine W.sq ?_
      refine g 70 71 [] ?_
      conv => whnf
      refine ⟨⟨I, I, I⟩, ?_⟩
      refine W.cn ?_
      conv => whnf
      refine ⟨noT (decide_eq_false (by omega)), fun _ => ?_⟩
      refine W.skip ?_
      refine W.sq ?_
      refine g 71 74 [] ?_
      conv => whnf
      refine ⟨⟨I, I, I, I⟩, ?_⟩
      refine W.cn ?_
      conv => whnf
      refine ⟨noT (notF (by omega)), fun _ => ?_⟩
      refine W.skip ?_
      refine gd 74 80 [[], [.call (bossO b) ([[]])], [], [.call (planO p) ([[]])], [.call (bossO (bRise b p)) ([[], []])], [], []] ?_
      conv => whnf
      refine ⟨⟨I, ⟨⟨I, I⟩, I, ⟨⟨I, I, I, I, I, I, I, I, I, I, I, I, I⟩, I⟩, ⟨I, I⟩, Go.K.c_laws_toBoss _ (by omega)⟩, I, ⟨⟨I, I⟩, I, ⟨⟨I, I⟩, I⟩, ⟨I, I⟩, Go.K.c_laws_toPlan _ (by omega)⟩, ⟨⟨I, I, I⟩, I, ⟨⟨I, I, I, I, I, I, I, I, I, I, I, I, I⟩, ⟨I, I⟩, I⟩, ⟨I, I⟩, Go.K.c_impl_BossRise _ _ (by omega) (by omega)⟩, I, ⟨I, I, I, I, I, I, I, I, I, I, I, I, I⟩, I⟩, by kernel_rfl, ?_⟩
      refine W.sq ?_
      refine g 13 83 [.call (V.b (decide (bRise b p = bRise b p))) ([[], []])] ?_
      conv => whnf
      refine ⟨⟨I, I, ⟨⟨I, I, I⟩, I, ⟨⟨I, I, I, I, I, I, I, I, I, I, I, I, I⟩, ⟨I, I, I, I, I, I, I, I, I, I, I, I, I⟩, I⟩, ⟨I, I⟩, Go.K.c_laws_eqBoss _ _ (by omega)⟩, I, I⟩, ?_⟩
      refine W.cn ?_
      conv => whnf
      refine ⟨noT (by assumption), fun _ => ?_⟩
      refine W.skip ?_
      refine g 2 4 [] ?_
      conv => whnf
      refine ⟨⟨I, I⟩, ?_⟩
      refine g 83 87 [.call (V.i ((1 : Int) + bossTopC (bRise b p))) ([[], []])] ?_
      conv => whnf
      refine ⟨⟨I, I, ⟨⟨I, I, I⟩, I, ⟨⟨I, I, I, I, I, I, I, I, I, I, I, I, I⟩, ⟨I, I⟩, I⟩, ⟨I, I⟩, Go.K.c_laws_heldBoss _ _ (by omega) (by omega) (by omega)⟩, I, I⟩, ?_⟩
      refine W.sq ?_
      refine g 6 10 [] ?_
      conv => whnf
      refine ⟨⟨I, I, I⟩, ?_⟩
      refine W.cn ?_
      conv => whnf
      refine ⟨noT (by assumption), fun _ => ?_⟩
      refine W.skip ?_
      refine W.sq ?_
      refine g 11 91 [] ?_
      conv => whnf
      refine ⟨⟨I, I, I, I⟩, ?_⟩
      refine W.cn ?_
      conv => whnf
      refine ⟨noT (by assumption), fun _ => ?_⟩
      refine W.skip ?_
      refine g 91 92 [] ?_
      conv => whnf
      refine ⟨⟨I, I⟩, ?_⟩
      refine W.ret ?_
      refine EndsW.rt ?_
      conv => whnf
      refine ⟨⟨I, I, I⟩, ?_, rfl⟩
      rfl
end Go.K

end
