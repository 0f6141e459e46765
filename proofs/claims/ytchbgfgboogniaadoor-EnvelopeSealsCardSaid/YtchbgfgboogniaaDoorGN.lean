/-
  Slices of what is known, cut. Over any program.
  Interfaces and nil. Over any program.
  CALLS THAT PANIC and are lent boxes, in the words of Sy. Over any program.
  append(b, s...) WITH A STRING s, in the words of Sy. Over any program.
  METHOD VALUES in the words of Sy: a function that holds its first arguments. Over any program.
-/
import Derived.Test.YtchbgfgboogniaaDoorGU
import Derived.Test.YtchbgfgboogniaaDoorGV
import Derived.Test.YtchbgfgboogniaaDoorGT
import Derived.Lib.AppendStr
namespace Go.Proofs.YtchbgfgboogniaaDoor
open Go.RowKit
namespace Sx
section
variable {P : Program} {Γ : Cx} {σ : St} {S : List Nat} {dst : Option Tmp} {ty : TypeId} {pos : String} {af : Array Edge} {gd : Option (Nat × Bool)} {d d' : D}
end
end Sx
end Go.Proofs.YtchbgfgboogniaaDoor
namespace Go.Proofs.YtchbgfgboogniaaDoor
open Go.RowKit
namespace Sx
section
variable {P : Program} {Γ : Cx} {σ : St} {S : List Nat} {dst : Option Tmp} {ty : TypeId} {pos : String} {af : Array Edge} {gd : Option (Nat × Bool)}
end
end Sx
end Go.Proofs.YtchbgfgboogniaaDoor
namespace Go.Proofs.YtchbgfgboogniaaDoor
open Go.RowKit
namespace Sx
section
variable {P : Program} {Γ : Cx} {σ σ' : St} {Q : Exit → Act → World → Prop} {a : Act} {w : World} {ops : Array Oper} {rest : List Oper} {S : List Nat} {dst : Option Tmp} {ty : TypeId} {pos : String} {af : Array Edge} {gd : Option (Nat × Bool)}
end
end Sx
end Go.Proofs.YtchbgfgboogniaaDoor
namespace Go.Proofs.YtchbgfgboogniaaDoor
open Go.RowKit
namespace Sx
section
variable {P : Program} {Γ : Cx} {σ : St} {S : List Nat} {ty : TypeId} {pos : String} {af : Array Edge} {gd : Option (Nat × Bool)}
theorem str_cells (s : List UInt8) : Go.Lib.strCells ⟨s.toArray⟩ = cellsOf s := by simp [Go.Lib.strCells, cellsOf, B8]
theorem run_append_str (w : World) (t u ty e : TypeId) (i : TypeInfo) (ht : P.underlying t = some (.slice e)) (hu : P.underlying u = some .string) (hi : P.info? e = some i) (hz : i.zero = some (.int .u8 0))
    (hsize : i.size = 1) (hby : i.bytes = 1) (v : Value) (n : Nat) (xs : List Value) (hown : w.ownsRow 0 e 1 v n xs) (s : ByteArray) (hl : n + s.size ≤ 1099511627776) :
    ∃ v' w', (Builtin.append_ #[t, u] ty #[v, .string s]).run P w = .ok v' w' ∧ w'.ownsRow 0 e 1 v' (n + s.size) (xs ++ Go.Lib.strCells s) ∧ w.grownBy w' v.ownBlock ∧ (v'.ownBlock = v.ownBlock ∨ v'.ownBlock = some w.heap.size) := by
  obtain ⟨v', w', hr, h2, h3, h4⟩ := Go.Lib.run_append_own_string (P := P) w 0 t u ty e i ht hu hi hz hsize hby v n xs hown s (by unfold maxLen; omega) (by omega) (Nat.zero_le _)
  refine ⟨v', w', hr, h2, h3, ?_⟩
  have hxl : xs.length = n := by simpa using hown.1
  rcases hown.2 with ⟨rfl, rfl⟩ | ⟨g, cap, cur, rfl, hbg, hg, hnc, hcm, hcs, htake⟩
  · by_cases hm : s.size = 0
    · exact .inl (by rw [h4.2 ⟨rfl, hm⟩])
    · have hr' := run_append_nil_string (P := P) w t u ty e i (.int .u8 0) ht hu hi hz s (by omega) (by omega) (by rw [hby]; omega)
      rw [hr'] at hr
      injection hr with e1 e2
      exact .inr (by rw [← e1]; rfl)
  · by_cases hroom : n + s.size ≤ cap
    · have hcs' : cur.size = cap := by simpa using hcs
      have hr' := Go.Lib.run_append_room_string (P := P) w t u ty e i ht hu hi hsize g n cap cur hg s hroom (by omega)
      rw [hr'] at hr
      injection hr with e1 e2
      exact .inl (by rw [← e1]; rfl)
    · have hr' := Go.Lib.run_append_grow_string (P := P) w t u ty e i (.int .u8 0) ht hu hi hz ⟨g, 0, none⟩ n cap xs (by rw [hsize]; simpa using hxl) (hown.cells (g := g) rfl) s (by omega) (by omega) (by rw [hby]; exact growslice_fits (by omega) (by omega))
      rw [hr'] at hr
      injection hr with e1 e2
      exact .inr (by rw [← e1]; rfl)
theorem Ef.appStr {x y : Operand} {T u e k c : Nat} {A : Option Addr} {F : List Nat} {b s : List UInt8} (j : Nat) (hx : σ.ev x = some (isD (.slice A b.length c))) (hj : σ.bx[j]? = some (.r F (vecT e 1 encB A c b))) (hy : σ.ev y = some (strD s)) (hT : sliceT P T e = true) (hU : stringT P u = true) (hE : elT P e 1 1 = true)
    (hz0 : (P.info? e).map (·.zero) = some (some (.int .u8 0))) (hlen : b.length + s.length ≤ 1099511627776) (hS : ∀ g ∈ F, g ∈ S) (hk : dstOk Γ.nt k = true) :
    Ef P Γ S ⟨some k, .call { callee := .builtin .append, args := #[x, y], argTypes := #[T, u] }, ty, pos, af, gd⟩ σ (fun σ' => ∃ A' F' c', σ' = (σ.give [j] [.r F' (vecT e 1 encB A' c' (b ++ s))]).put k (isD (.slice A' (b ++ s).length c'))) := by
  intro a w hh K Q hK
  have hxv : a.eval x = .slice A b.length c := ev_spec hh hx
  have hyv : a.eval y = .string ⟨s.toArray⟩ := ev_spec hh hy
  obtain ⟨i, z, hI, h1, h2, h3, h4⟩ := elT_spec hE
  rw [hI] at hz0
  obtain rfl : z = .int .u8 0 := by
    have : i.zero = some (.int .u8 0) := by simpa using hz0
    rw [this] at h3
    injection h3 with h3
    exact h3.symm
  obtain ⟨xs, ha, hown, hF⟩ := hh.resAt hj
  have hsz : (⟨s.toArray⟩ : ByteArray).size = s.length := by simp [ByteArray.size]
  obtain ⟨v', w', hrun, ho2, hgr, hblk⟩ := run_append_str (P := P) w T u ty e i (sliceT_spec hT) (stringT_spec hU) hI h3 h1 h2 _ _ xs hown ⟨s.toArray⟩ (by rw [hsz]; omega)
  rw [hsz, str_cells] at ho2
  have hOn : Only F w w' := by rw [hF]; exact Only.of_grown hgr
  have hFL : ∀ x ∈ F, x ∈ σ.L Γ := fun x hx => List.mem_append_left _ (mem_fps.2 ⟨_, List.mem_of_getElem? hj, hx⟩)
  have hsub : SubBx σ.bx [j] [.r F (vecT e 1 encB A c b)] := ⟨⟨_, hj, LeR.refl _⟩, trivial⟩
  have hfp : fps [Box.r F (vecT e 1 encB A c b)] = F := by simp [fps, Box.fp]
  obtain ⟨A', c', rfl⟩ : ∃ A' c', v' = .slice A' (b.length + s.length) c' := by
    rcases ho2.2 with ⟨h5, h6⟩ | ⟨g, cap, cur, h5, _⟩
    · exact ⟨none, 0, by rw [h5]; congr 1; omega⟩
    · exact ⟨_, _, h5⟩
  have hF' : ∀ g ∈ (Value.slice A' (b.length + s.length) c').ownBlock.toList, g ∈ F ∨ w.heap.size ≤ g := fun g hg => by
    rcases hblk with h | h
    · left; rw [hF, ← h]; exact hg
    · right; rw [h] at hg; simp at hg; omega
  have hnd : ((Value.slice A' (b.length + s.length) c').ownBlock.toList).Nodup := by
    cases (Value.slice A' (b.length + s.length) c').ownBlock <;> simp
  have hall : All ((Value.slice A' (b.length + s.length) c').ownBlock.toList ++ (σ.L Γ).filter (· ∉ F)) w' ((b ++ s).flatMap encB) (xs ++ cellsOf s) := by
    have h5 : All (σ.L Γ ++ ((Value.slice A' (b.length + s.length) c').ownBlock.toList ++ (σ.L Γ).filter (· ∉ F))) w' ((b ++ s).flatMap encB) (xs ++ cellsOf s) := by
      rw [List.flatMap_append, flat_encB s]
      refine ((ha.append (all_is (cellsOf s))).less (fun x hx => ?_)).keep hOn (fun x hx => List.mem_append_left _ (hFL x hx))
      rcases List.mem_append.1 hx with hx | hx
      · exact .inl hx
      · rcases List.mem_append.1 hx with hx | hx
        · rcases hF' x hx with h | h
          · exact .inl (hFL x h)
          · exact .inr h
        · exact .inl (List.mem_filter.1 hx).1
    exact h5.less (fun x hx => .inl (List.mem_append_right _ hx))
  obtain ⟨h6, h7⟩ := hh.give (post := [.r (Value.slice A' (b.length + s.length) c').ownBlock.toList (vecR e 1 A' (b.length + s.length) c' ((b ++ s).flatMap encB))]) hsub (by rw [hfp]; exact hOn) (fun bx hb => by
    rw [List.mem_singleton.1 hb]
    refine ⟨xs ++ cellsOf s, ?_, ho2, rfl⟩
    rw [hfp]
    simpa [fps, Box.fp] using hall) (by simpa [fps, Box.fp] using hnd) (fun x hx => by
    rw [hfp]
    exact hF' x (by simpa [fps, Box.fp] using hx))
  have e2 : (execOp a.eval ⟨some k, .call { callee := .builtin .append, args := #[x, y], argTypes := #[T, u] }, ty, pos, af, gd⟩).run P w = .ok (.value (.slice A' (b.length + s.length) c')) w' := by
    simp only [execOp, resolve, invoke, builtin, Sem.run_bind, Sem.run_pure, Result.andThen_ok, List.map_toArray, List.map_cons, List.map_nil, hxv, hyv, hrun]
  unfold Oper.wp
  rw [e2]
  refine hK _ _ _ ⟨A', (Value.slice A' (b.length + s.length) c').ownBlock.toList, c', ?_⟩ (h6.put (by simpa [dstOk] using hk) (d := isD (.slice A' (b.length + s.length) c')) rfl) (hOn.mono (fun x hx _ => hS x hx))
  unfold vecT
  rw [List.length_append]
end
end Sx
end Go.Proofs.YtchbgfgboogniaaDoor
namespace Go.Proofs.YtchbgfgboogniaaDoor
open Go.RowKit
namespace Sx
section
variable {P : Program} {Γ : Cx} {σ : St} {S : List Nat} {dst : Option Tmp} {ty : TypeId} {pos : String} {af : Array Edge} {gd : Option (Nat × Bool)}
theorem Rd.makeFuncB {fn : Fn} {bp : Array Operand} (cs : List Value) (hc : σ.evs bp.toList = some (cs.map isD)) : Rd P Γ S ⟨dst, .makeFunc fn bp #[], ty, pos, af, gd⟩ σ (isD (.func fn cs.toArray #[])) := by
  intro a w hh
  have hall := evs_spec hh hc
  have key : ∀ {zs cs : List Value}, All (σ.L Γ) w (zs.map isD) cs → cs = zs := by
    intro zs
    induction zs with
    | nil => intro cs h; cases cs with | nil => rfl | cons => exact h.elim
    | cons z zs ih => intro cs h; cases cs with | nil => exact h.elim | cons c cs => rw [ih h.2, show c = z from h.1]
  have e : bp.map a.eval = cs.toArray := by
    apply Array.ext'
    simpa using key hall
  exact ⟨_, rfl, fun w' _ => by simp [execOp, Instr.makeFunc, e]⟩
theorem run_callB {a : Act} {w : World} {x : Operand} {f : FuncId} {args : Array Operand} {aT : Array TypeId} {bd : List Value} (hen : enters P f) (hx : a.eval x = .func (.func f) bd.toArray #[]) :
    (execOp a.eval ⟨dst, .call { callee := .value x, args := args, argTypes := aT }, ty, pos, af, gd⟩).run P w = .ok (.enter f (bd ++ args.toList.map a.eval).toArray) w := by
  have h := hen (bd ++ args.toList.map a.eval).toArray w
  have e1 : bd.toArray ++ (args.map a.eval) = (bd ++ args.toList.map a.eval).toArray := by apply Array.ext'; simp
  simp only [execOp, resolve, hx, Deferred.ofValue, Sem.run_bind, Sem.run_pure, Result.andThen_ok, invoke, Array.append_empty]
  rw [e1]
  exact h
theorem all_bd {L : List Nat} {w : World} {es : List D} {vs : List Value} (bd : List Value) (h : All L w es vs) : All L w (bd.map isD ++ es) (bd ++ vs) := (all_is bd).append h
/-- A call of a method value that is lent boxes. -/
theorem Ef.callBR {x : Operand} {f : FuncId} {args : Array Operand} {aT : Array TypeId} {bd : List Value} {pre : List Box} {ad es : List D} {ι : Type} {post : ι → List Box} {d : ι → D} {k : Nat} (js : List Nat) (hcon : ConR P f pre ad post d) (hx : σ.ev x = some (isD (.func (.func f) bd.toArray #[]))) (he : σ.evs args.toList = some es) (hl : LeAll (bd.map isD ++ es) ad) (hjs : js.Nodup) (hs : SubBx σ.bx js pre) (hS : ∀ g ∈ fps pre, g ∈ S) (hk : dstOk Γ.nt k = true) :
    Ef P Γ S ⟨some k, .call { callee := .value x, args := args, argTypes := aT }, ty, pos, af, gd⟩ σ (fun σ' => ∃ i, σ' = (σ.give js (post i)).put k (d i)) := by
  intro a w hh K Q hK
  have hall := hl.all (all_bd bd (evs_spec hh he))
  unfold Oper.wp
  rw [run_callB hcon.en (show a.eval x = _ from ev_spec hh hx)]
  simp only [Oper.upon]
  refine (upon_R hcon hh hjs hs hall).mono ?_
  rintro r w' ⟨i, v, rfl, h1, h2, ho⟩
  exact hK _ _ _ ⟨i, rfl⟩ (h1.put (by simpa [dstOk] using hk) h2) (ho.mono (fun x hx _ => hS x hx))
end
end Sx
end Go.Proofs.YtchbgfgboogniaaDoor
