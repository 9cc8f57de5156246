/- Contracts of functions of the program: what each call answers. -/
import Derived.Test.YtcccigapbalidaaL
set_option linter.unusedVariables false
set_option linter.unusedSimpArgs false
set_option maxHeartbeats 4000000
set_option maxRecDepth 20000
open Go Go.Tm Go.Proofs
namespace Go.K
theorem wf_Task {n : Nat} {x : List T} (h : wfT E (n + 3) ty_laws_Task x) : ∃ v : Task, x = taskT v ∧ taskWf v := by
  obtain ⟨y0, z0, e0, ⟨name, rfl, hname⟩, y1, z1, e1, ⟨cost, rfl, _, _⟩, y2, z2, e2, ⟨ldeps, rfl, hdeps, gdeps⟩, e3⟩ := h
  subst e3
  subst e2
  subst e1
  obtain ⟨deps, rfl, _⟩ := map_of (f := intT) (p := fun _ => True) (xs := ldeps) fun y hy => by obtain ⟨m, hm, _⟩ := gdeps y hy; exact ⟨m, hm, trivial⟩
  subst e0
  exact ⟨⟨name, cost, deps⟩, rfl, ⟨hname, by rw [List.length_map] at hdeps; exact hdeps⟩⟩
theorem wf_Plan {n : Nat} {x : List T} (h : wfT E (n + 5) ty_laws_Plan x) : ∃ v : Plan, x = planT v ∧ planWf v := by
  obtain ⟨y0, z0, e0, ⟨ltasks, rfl, htasks, gtasks⟩, e1⟩ := h
  subst e1
  obtain ⟨tasks, rfl, wtasks⟩ := map_of (f := taskT) (p := taskWf) (xs := ltasks) fun y hy => wf_Task (gtasks y hy)
  subst e0
  exact ⟨⟨tasks⟩, rfl, ⟨by rw [List.length_map] at htasks; exact htasks, wtasks⟩⟩
theorem wf_Worker {n : Nat} {x : List T} (h : wfT E (n + 3) ty_laws_Worker x) : ∃ v : Worker, x = workerT v ∧ workerWf v := by
  obtain ⟨y0, z0, e0, ⟨number, rfl, _, _⟩, y1, z1, e1, ⟨epoch, rfl, _, _⟩, y2, z2, e2, ⟨up, rfl⟩, y3, z3, e3, ⟨state, rfl, _, _⟩, y4, z4, e4, ⟨lease, rfl, _, _⟩, y5, z5, e5, ⟨task, rfl, _, _⟩, y6, z6, e6, ⟨cost, rfl, _, _⟩, y7, z7, e7, ⟨left, rfl, _, _⟩, y8, z8, e8, ⟨linputs, rfl, hinputs, ginputs⟩, y9, z9, e9, ⟨text, rfl, htext⟩, y10, z10, e10, ⟨since, rfl, _, _⟩, e11⟩ := h
  subst e11
  subst e10
  subst e9
  subst e8
  subst e7
  subst e6
  subst e5
  subst e4
  subst e3
  subst e2
  subst e1
  obtain ⟨inputs, rfl, winputs⟩ := wf_strs ginputs
  subst e0
  exact ⟨⟨number, epoch, up, state, lease, task, cost, left, inputs, text, since⟩, rfl, ⟨by rw [List.length_map] at hinputs; exact hinputs, winputs, htext⟩⟩
end Go.K
