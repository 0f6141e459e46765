/- LEDGERS: the walk of an inclusion path. LEDGERS: Consistency. LEDGERS: the reference, digests. LEDGERS: the reference, paths. LEDGERS: encodings, Appe -/
import Derived.Test.YtgokpcnabgacnaaGreatDoorGZAR
import Derived.Test.YtgokpcnabgacnaaGreatDoorGZAG
import Derived.Test.YtgokpcnabgacnaaGreatDoorGZAQ
import Derived.Test.YtgokpcnabgacnaaGreatDoorGZAF
set_option maxHeartbeats 8000000
set_option maxRecDepth 100000
namespace Go.Proofs.YtgokpcnabgacnaaGreatDoor
open Go.RowKit
namespace Sx
structure Vst where
 A : Option Addr
 c : Nat
 F : List Nat
def encLn (n0 : Nat) (d : List UInt8) : List D := [nwD n0 (bD d)]
instance (n0 : Nat) : Row (encLn n0) 1 := ⟨fun _ => rfl, fun x => by unfold encLn; infer_instance, by decide⟩
end Sx
end Go.Proofs.YtgokpcnabgacnaaGreatDoor
namespace Go.Proofs.YtgokpcnabgacnaaGreatDoor
open Go.RowKit
namespace Sx
end Sx
end Go.Proofs.YtgokpcnabgacnaaGreatDoor
namespace Go.Proofs.YtgokpcnabgacnaaGreatDoor
open Go.RowKit
namespace Sx
def Led.Ent.fit (e : Led.Ent) : Prop := 0 ≤ e.kind ∧ e.kind ≤ 255 ∧ e.bytes.length ≤ 65536
end Sx
end Go.Proofs.YtgokpcnabgacnaaGreatDoor
namespace Go.Proofs.YtgokpcnabgacnaaGreatDoor
open Go.RowKit
namespace Sx
def be4 (n : Nat) : List UInt8 := [UInt8.ofNat (n / 16777216), UInt8.ofNat (n / 65536), UInt8.ofNat (n / 256), UInt8.ofNat n]
def encF (e : Led.Ent) : List UInt8 := (UInt8.ofNat e.kind.toNat :: be4 e.bytes.length) ++ e.bytes
def encAll (l : List Led.Ent) : List UInt8 := l.flatMap encF
end Sx
end Go.Proofs.YtgokpcnabgacnaaGreatDoor
namespace Go.Proofs.YtgokpcnabgacnaaGreatDoor
open Go.RowKit
namespace Sx
def yI (es : List Led.Ent) (k : Int) (b : List UInt8) : Int := if 0 ≤ k ∧ k ≤ 255 ∧ b.length ≤ 65536 then (if es.length < 4096 then 0 else 7) else 2
def Led.app (es : List Led.Ent) (k : Int) (b : List UInt8) : List Led.Ent := if 0 ≤ k ∧ k ≤ 255 ∧ b.length ≤ 65536 then (if es.length < 4096 then es ++ [⟨k, b⟩] else es) else es
def Led.appI (es : List Led.Ent) (k : Int) (b : List UInt8) : Int := if 0 ≤ k ∧ k ≤ 255 ∧ b.length ≤ 65536 then (if es.length < 4096 then (es.length : Int) else 0) else 0
theorem Yc {es : List Led.Ent} {k : Int} {b : List UInt8} (h : ¬ (0 ≤ k ∧ k ≤ 255 ∧ b.length ≤ 65536)) : Led.app es k b = es ∧ yI es k b = 2 ∧ Led.appI es k b = 0 := ⟨if_neg h, if_neg h, if_neg h⟩
theorem Zo {es : List Led.Ent} {k : Int} {b : List UInt8} (h : 0 ≤ k ∧ k ≤ 255 ∧ b.length ≤ 65536) (h2 : ¬ es.length < 4096) : Led.app es k b = es ∧ yI es k b = 7 ∧ Led.appI es k b = 0 := ⟨by rw [Led.app, if_pos h, if_neg h2], by rw [yI, if_pos h, if_neg h2], by rw [Led.appI, if_pos h, if_neg h2]⟩
theorem ZY {es : List Led.Ent} {k : Int} {b : List UInt8} (h : 0 ≤ k ∧ k ≤ 255 ∧ b.length ≤ 65536) (h2 : es.length < 4096) : Led.app es k b = es ++ [⟨k, b⟩] ∧ yI es k b = 0 ∧ Led.appI es k b = es.length := ⟨by rw [Led.app, if_pos h, if_pos h2], by rw [yI, if_pos h, if_pos h2], by rw [Led.appI, if_pos h, if_pos h2]⟩
instance : DecidablePred Led.Ent.fit := fun e => by unfold Led.Ent.fit; infer_instance
instance ones_te (e : Led.Ent) : Ones (List.take 2 (encE e)) := by unfold encE; show Ones [iD _, bD _]; infer_instance
theorem con_append_bad (gl : Nat) (s : Lst) (es es' : List Led.Ent) (k : Int) (b : List UInt8) (A : Option Addr) (c : Nat) (F : List Nat) (R : Res) (hR : Z7 R (.slice A b.length c) (cellsOf b)) (hn : es.length ≤ 100000) (he : es' = Led.app es k b) (h : ¬ (0 ≤ k ∧ k ≤ 255 ∧ b.length ≤ 65536)) : ConR Tryz.prog 35 [.c gl [isD (.slice s.A (es).length s.c), isD (.map s.M)], ledE s (es), ledM s (es), .r F R] [pA gl, yX [iD k, isD (.slice A b.length c)]] (fun t : Lst => [.c gl [isD (.slice t.A (es').length t.c), isD (.map t.M)], ledE t (es'), ledM t (es'), .r F R]) (fun t : Lst => Yq [iD (Led.appI es k b), iD (yI es k b)]) := by
 refine zY Tryz.func35 k9 rfl k9 fun base w0 => (zh (zb (zk (S := []) (yF rfl rfl) ?_)))
 rintro _ ⟨g3, rfl⟩
 refine za rfl (ze rfl) (za rfl (ze rfl) (zg (zc (zh (zh (zb (za rfl (zd rfl) (za rfl (Z0 rfl rfl k9) (zg (zc (zE rfl (rfl) (zu (zc (zh (zh (zb (za rfl (zG 4 2 rfl rfl k9 rfl zp) (zk (S := []) (zA [] (con_valid k b.length) rfl ⟨(zr (Zz ⟨zf _, le_is_len, trivial⟩)), trivial⟩ rfl) ?_))))))))))))))))))
 rintro _ rfl
 refine za rfl (yU rfl) (zg (zc (yf rfl (by simp [h]) (zh (zb (za rfl (ze rfl) (za rfl (ze rfl) (zg (zc (zS (fn := Tryz.f35) (s) [0, 1, 2, 3] (fun _ _ h => h) (Rs.le (Rs.two rfl (zo rfl) (zo rfl)) ?_) d9 ⟨⟨_, rfl, ⟨zC (by rw [he, (Yc h).1]), zf _, trivial⟩⟩, ⟨⟨_, rfl, ZN (by rw [he, (Yc h).1]) (by rw [he, (Yc h).1])⟩, ⟨⟨_, rfl, leMap (by rw [he, (Yc h).1]) (by rw [he, (Yc h).1])⟩, ⟨lR rfl, trivial⟩⟩⟩⟩))))))))))
 exact yJ ⟨zC (by rw [(Yc h).2.2]), zC (by rw [(Yc h).2.1]), trivial⟩
theorem con_append_full (gl : Nat) (s : Lst) (es es' : List Led.Ent) (k : Int) (b : List UInt8) (A : Option Addr) (c : Nat) (F : List Nat) (R : Res) (hR : Z7 R (.slice A b.length c) (cellsOf b)) (hn : es.length ≤ 100000) (he : es' = Led.app es k b) (h : 0 ≤ k ∧ k ≤ 255 ∧ b.length ≤ 65536) (h2 : ¬ es.length < 4096) : ConR Tryz.prog 35 [.c gl [isD (.slice s.A (es).length s.c), isD (.map s.M)], ledE s (es), ledM s (es), .r F R] [pA gl, yX [iD k, isD (.slice A b.length c)]] (fun t : Lst => [.c gl [isD (.slice t.A (es').length t.c), isD (.map t.M)], ledE t (es'), ledM t (es'), .r F R]) (fun t : Lst => Yq [iD (Led.appI es k b), iD (yI es k b)]) := by
 refine zY Tryz.func35 k9 rfl k9 fun base w0 => (zh (zb (zk (S := []) (yF rfl rfl) ?_)))
 rintro _ ⟨g3, rfl⟩
 refine za rfl (ze rfl) (za rfl (ze rfl) (zg (zc (zh (zh (zb (za rfl (zd rfl) (za rfl (Z0 rfl rfl k9) (zg (zc (zE rfl (rfl) (zu (zc (zh (zh (zb (za rfl (zG 4 2 rfl rfl k9 rfl zp) (zk (S := []) (zA [] (con_valid k b.length) rfl ⟨(zr (Zz ⟨zf _, le_is_len, trivial⟩)), trivial⟩ rfl) ?_))))))))))))))))))
 rintro _ rfl
 refine za rfl (yU rfl) (zg (zc (zE rfl (by simp; omega) (zu (zc (zh (zh (zb (za rfl (zd rfl) (za rfl (zw rfl) (za rfl (zi (n := 0) rfl k9) (za rfl (zl 0 rfl rfl rfl k9 zp) (za rfl (Rd.lenE (e := 85) rfl k9) (za rfl (ZL rfl rfl) (zg (zc (yf rfl (by simp; omega) (zh (zb (za rfl (ze rfl) (za rfl (ze rfl) (zg (zc (zS (fn := Tryz.f35) (s) [0, 1, 2, 3] (fun _ _ h => h) (Rs.le (Rs.two rfl (zo rfl) (zo rfl)) ?_) d9 ⟨⟨_, rfl, ⟨zC (by rw [he, (Zo h h2).1]), zf _, trivial⟩⟩, ⟨⟨_, rfl, ZN (by rw [he, (Zo h h2).1]) (by rw [he, (Zo h h2).1])⟩, ⟨⟨_, rfl, leMap (by rw [he, (Zo h h2).1]) (by rw [he, (Zo h h2).1])⟩, ⟨lR rfl, trivial⟩⟩⟩⟩))))))))))))))))))))))))
 exact yJ ⟨zC (by rw [(Zo h h2).2.2]), zC (by rw [(Zo h h2).2.1]), trivial⟩
theorem con_append_ok (gl : Nat) (s : Lst) (es es' : List Led.Ent) (k : Int) (b : List UInt8) (A : Option Addr) (c : Nat) (F : List Nat) (R : Res) (hR : Z7 R (.slice A b.length c) (cellsOf b)) (hn : es.length ≤ 100000) (he : es' = Led.app es k b) (h : 0 ≤ k ∧ k ≤ 255 ∧ b.length ≤ 65536) (h2 : es.length < 4096) : ConR Tryz.prog 35 [.c gl [isD (.slice s.A (es).length s.c), isD (.map s.M)], ledE s (es), ledM s (es), .r F R] [pA gl, yX [iD k, isD (.slice A b.length c)]] (fun t : Lst => [.c gl [isD (.slice t.A (es').length t.c), isD (.map t.M)], ledE t (es'), ledM t (es'), .r F R]) (fun t : Lst => Yq [iD (Led.appI es k b), iD (yI es k b)]) := by
 refine zY Tryz.func35 k9 rfl k9 fun base w0 => (zh (zb (zk (S := []) (yF rfl rfl) ?_)))
 rintro _ ⟨g3, rfl⟩
 refine za rfl (ze rfl) (za rfl (ze rfl) (zg (zc (zh (zh (zb (za rfl (zd rfl) (za rfl (Z0 rfl rfl k9) (zg (zc (zE rfl (rfl) (zu (zc (zh (zh (zb (za rfl (zG 4 2 rfl rfl k9 rfl zp) (zk (S := []) (zA [] (con_valid k b.length) rfl ⟨(zr (Zz ⟨zf _, le_is_len, trivial⟩)), trivial⟩ rfl) ?_))))))))))))))))))
 rintro _ rfl
 refine za rfl (yU rfl) (zg (zc (zE rfl (by simp; omega) (zu (zc (zh (zh (zb (za rfl (zd rfl) (za rfl (zw rfl) (za rfl (zi (n := 0) rfl k9) (za rfl (zl 0 rfl rfl rfl k9 zp) (za rfl (Rd.lenE (e := 85) rfl k9) (za rfl (ZL rfl rfl) (zg (zc (zE rfl (by simp; omega) (zu (zc (zh (zb (za rfl (zd rfl) (za rfl (zG 4 2 rfl rfl k9 rfl zp) (zk (zB [0, 1, 2, 3] (con_push gl s es _ k b A c F R hR o9 ⟨h.1, h.2.1⟩ hn rfl) rfl ⟨zf _, zf _, trivial⟩ d9 (sX rfl) (fun _ h => h) rfl) ?_))))))))))))))))))))))))
 rintro _ ⟨s2, rfl⟩
 refine zg (zc (zh (zb (za rfl (zd rfl) (za rfl (zw rfl) (za rfl (zi (n := 0) rfl k9) (za rfl (zl 1 rfl rfl rfl k9 zp) (za rfl (Rd.lenE (e := 85) rfl k9) (za rfl (Rd.subi rfl rfl ⟨by simp <;> omega, by simp <;> omega⟩) (za rfl (ze rfl) (za rfl (ze rfl) (zg (zc (zS (fn := Tryz.f35) (s2) [1, 2, 3, 4] (fun _ _ h => h) (Rs.le (Rs.two rfl (zo rfl) (zo rfl)) ?_) d9 ⟨⟨_, rfl, ⟨zC (by rw [he, (ZY h h2).1]), zf _, trivial⟩⟩, ⟨⟨_, rfl, ZN (by rw [he, (ZY h h2).1]) (by rw [he, (ZY h h2).1])⟩, ⟨⟨_, rfl, leMap (by rw [he, (ZY h h2).1]) (by rw [he, (ZY h h2).1])⟩, ⟨lR rfl, trivial⟩⟩⟩⟩))))))))))))))
 exact yJ ⟨zC (by rw [(ZY h h2).2.2]; simp), zC (by rw [(ZY h h2).2.1]), trivial⟩
theorem con_append (gl : Nat) (s : Lst) (es es' : List Led.Ent) (k : Int) (b : List UInt8) (A : Option Addr) (c : Nat) (F : List Nat) (R : Res) (hR : Z7 R (.slice A b.length c) (cellsOf b)) (hn : es.length ≤ 100000) (he : es' = Led.app es k b) :
  ConR Tryz.prog 35 [ledC gl s es, ledE s es, ledM s es, .r F R] [pA gl, yX [iD k, isD (.slice A b.length c)]] (fun s : Lst => [ledC gl s es', ledE s es', ledM s es', .r F R]) (fun _ => Yq [iD (Led.appI es k b), iD (yI es k b)]) := by
 by_cases h : 0 ≤ k ∧ k ≤ 255 ∧ b.length ≤ 65536
 ·by_cases h2 : es.length < 4096
  ·exact con_append_ok gl s es es' k b A c F R hR hn he h h2
  ·exact con_append_full gl s es es' k b A c F R hR hn he h h2
 ·exact con_append_bad gl s es es' k b A c F R hR hn he h
end Sx
end Go.Proofs.YtgokpcnabgacnaaGreatDoor
namespace Go.Proofs.YtgokpcnabgacnaaGreatDoor
open Go.RowKit
open Sx
namespace Rnd
structure Win where
 st : Int
 en : Int
 rv : Int
 cm : List UInt8
instance : Inhabited Win := ⟨⟨0, 0, 0, []⟩⟩
def okW (b : Int) (w : Win) : Prop := b ≤ w.st ∧ w.st < w.en ∧ w.en ≤ w.rv ∧ w.rv ≤ 1099511627776 ∧ w.cm.length = 32
instance (b : Int) (w : Win) : Decidable (okW b w) := by unfold okW; infer_instance
def okL : Int → List Win → Prop
 | _, [] => True
 | b, w :: l => okW b w ∧ okL w.en l
instance decOkL : ∀ (b : Int) (l : List Win), Decidable (okL b l)
 | _, [] => isTrue trivial
 | b, w :: l => @instDecidableAnd _ _ _ (decOkL w.en l)
def ok (l : List Win) : Prop := (1 ≤ l.length ∧ l.length ≤ 500) ∧ okL 0 l
instance (l : List Win) : Decidable (ok l) := by unfold ok; infer_instance
def before (l : List Win) (i : Nat) : Int := if i = 0 then 0 else (l.getD (i - 1) default).en
theorem before_succ {l : List Win} {i : Nat} {w : Win} (h : l[i]? = some w) : before l (i + 1) = w.en := by
 unfold before
 rw [if_neg o9, Nat.add_sub_cancel, List.getD_eq_getElem?_getD, h]
 rfl
theorem okL_step {l : List Win} {i : Nat} {w : Win} (h : l[i]? = some w) : okL (before l i) (l.drop i) ↔ okW (before l i) w ∧ okL (before l (i + 1)) (l.drop (i + 1)) := by
 obtain ⟨h1, h2⟩ := List.getElem?_eq_some_iff.1 h
 rw [before_succ h, List.drop_eq_getElem_cons h1, h2]
 rfl
theorem okL_all (l : List Win) (b : Int) : okL b (l.drop l.length) := by rw [List.drop_length]; trivial
structure S where
 bk : List Acc.T
 ws : List Win
 es : List Env.T
 ks : List (List UInt8)
 ck : Int
 en : List Led.Ent
def kyAt (ks : List (List UInt8)) (r : Nat) : List UInt8 := ks.getD r []
def winAt (ws : List Win) (r : Nat) : Win := ws.getD r default
def stOf (w : Win) (k : List UInt8) (now : Int) : Int := if k ≠ [] then 4 else if now < w.st then 1 else if now < w.en then 2 else 3
def st (s : S) (r : Nat) (now : Int) : Int := stOf (winAt s.ws r) (kyAt s.ks r) now
theorem winAt_some {ws : List Win} {r : Nat} {w : Win} (h : ws[r]? = some w) : winAt ws r = w := by unfold winAt; rw [List.getD_eq_getElem?_getD, h]; rfl
def has (s : S) (r : Int) : Prop := 0 ≤ r ∧ r < (s.ws.length : Int)
instance (s : S) (r : Int) : Decidable (has s r) := by unfold has; infer_instance
def time (now : Int) : Prop := 0 ≤ now ∧ now ≤ 1099511627776
instance (now : Int) : Decidable (time now) := by unfold time; infer_instance
def atE (s : S) (r now : Int) : Int := if ¬ time now then 2 else if ¬ has s r then 3 else 0
def atS (s : S) (r now : Int) : Int := if atE s r now = 0 then st s r.toNat now else 0
def rks (ks : List (List UInt8)) : List Int := ((List.range ks.length).filter fun i => decide (kyAt ks i ≠ [])).map (Nat.cast : Nat → Int)
theorem mem_rks {ks : List (List UInt8)} {r : Int} : r ∈ rks ks ↔ 0 ≤ r ∧ kyAt ks r.toNat ≠ [] := by
 unfold rks
 rw [List.mem_map]
 constructor
 ·rintro ⟨i, hi, rfl⟩
  have h := (List.mem_filter.1 hi).2
  simp at h
  exact ⟨by omega, by simpa using h⟩
 ·rintro ⟨h0, h⟩
  refine ⟨r.toNat, List.mem_filter.2 ⟨List.mem_range.2 ?_, by simpa using h⟩, by omega⟩
  apply Classical.byContradiction
  intro hn
  apply h
  unfold kyAt
  rw [List.getD_eq_getElem?_getD, List.getElem?_eq_none o9]
  rfl
def same (a b : Env.T) : Prop := a.acc = b.acc ∧ a.rnd = b.rnd
instance (a b : Env.T) : Decidable (same a b) := by unfold same; infer_instance
def subP (e : Env.T) (now : Int) : List UInt8 := grp now.toNat ++ strE (Env.enc e)
def busy (es : List Env.T) (e : Env.T) : Prop := ∃ x ∈ es, same x e ∧ e.ser ≤ x.ser
instance (es : List Env.T) (e : Env.T) : Decidable (busy es e) := by unfold busy; infer_instance
def subE (s : S) (e : Env.T) (now : Int) : Int :=
 if ¬ (Env.ok e ∧ time now) then 2 else if ¬ (s.ck ≤ now ∧ has s e.rnd) then 3 else if st s e.rnd.toNat now ≠ 2 then 8 else
 if Env.autE s.bk e ≠ 0 then Env.autE s.bk e else if busy s.es e then 11 else if 4096 ≤ s.en.length then 7 else 0
def put (es : List Env.T) (e : Env.T) : List Env.T := (es.filter fun x => decide (¬ same x e)) ++ [e]
def subS (s : S) (e : Env.T) (now : Int) : S := if subE s e now = 0 then { s with es := put s.es e, ck := now, en := s.en ++ [⟨1, subP e now⟩] } else s
def revP (r : Int) (key : List UInt8) (now : Int) : List UInt8 := grp now.toNat ++ grp r.toNat ++ strE key
def revE (s : S) (r : Int) (key : List UInt8) (now : Int) : Int :=
 if ¬ (key.length = 32 ∧ time now) then 2 else if ¬ (s.ck ≤ now ∧ has s r) then 3 else if ¬ ((winAt s.ws r.toNat).rv ≤ now ∧ kyAt s.ks r.toNat = []) then 8 else
 if Env.comB key ≠ (winAt s.ws r.toNat).cm then 10 else if 4096 ≤ s.en.length then 7 else 0
def revS (s : S) (r : Int) (key : List UInt8) (now : Int) : S := if revE s r key now = 0 then { s with ks := s.ks.set r.toNat key, ck := now, en := s.en ++ [⟨2, revP r key now⟩] } else s
def keysE (es : List Env.T) (i : Nat) : List (List UInt8) := (es.filter fun e => decide (e.rnd = (i : Int))).map Env.T.acc
def getE (es : List Env.T) (i : Nat) (nm : List UInt8) : Option Env.T := es.find? fun e => decide (e.rnd = (i : Int) ∧ e.acc = nm)
structure Good (s : S) : Prop where
 fine : Acc.Fine s.bk
 win : ok s.ws
 kl : s.ks.length = s.ws.length
 k32 : ∀ k ∈ s.ks, k = [] ∨ k.length = 32
 uni : s.es.Pairwise fun a b => ¬ same a b
 aut : ∀ e ∈ s.es, Env.autE s.bk e = 0 ∧ has s e.rnd
 fit : ∀ e ∈ s.en, Led.Ent.fit e
 len : s.en.length ≤ 4096
 ck : time s.ck
theorem mem_keysE {es : List Env.T} {i : Nat} {nm : List UInt8} : nm ∈ keysE es i ↔ ∃ e, getE es i nm = some e := by
 unfold keysE getE
 rw [List.mem_map]
 constructor
 ·rintro ⟨e, he, rfl⟩
  obtain ⟨h1, h2⟩ := List.mem_filter.1 he
  have h3 : (es.find? fun x => decide (x.rnd = (i : Int) ∧ x.acc = e.acc)).isSome := List.find?_isSome.2 ⟨e, h1, by simpa using h2⟩
  exact Option.isSome_iff_exists.1 h3
 ·rintro ⟨e, he⟩
  have h1 := List.find?_some he
  have h2 := List.mem_of_find?_eq_some he
  simp at h1
  exact ⟨e, List.mem_filter.2 ⟨h2, by simpa using h1.1⟩, h1.2⟩
theorem getE_some {es : List Env.T} {i : Nat} {nm : List UInt8} {e : Env.T} (h : getE es i nm = some e) : e ∈ es ∧ e.rnd = (i : Int) ∧ e.acc = nm := by
 have h1 := List.find?_some h
 simp at h1
 exact ⟨List.mem_of_find?_eq_some h, h1⟩
theorem same_symm {a b : Env.T} (h : same a b) : same b a := ⟨h.1.symm, h.2.symm⟩
theorem getE_of {es : List Env.T} (hu : es.Pairwise fun a b => ¬ same a b) {i : Nat} {e : Env.T} (he : e ∈ es) (hi : e.rnd = (i : Int)) : getE es i e.acc = some e := by
 obtain ⟨x, hx⟩ := mem_keysE.1 (List.mem_map.2 ⟨e, List.mem_filter.2 ⟨he, by simpa using hi⟩, rfl⟩ : e.acc ∈ keysE es i)
 obtain ⟨h1, h2, h3⟩ := getE_some hx
 have : x = e := by
  apply Classical.byContradiction
  intro hne
  have hs : same x e := ⟨h3, h2.trans hi.symm⟩
  obtain ⟨m, hm, hm2⟩ := List.mem_iff_getElem.1 h1
  obtain ⟨n, hn, hn2⟩ := List.mem_iff_getElem.1 he
  rcases Nat.lt_trichotomy m n with h | h | h
  ·exact List.pairwise_iff_getElem.1 hu m n hm hn h (by rw [hm2, hn2]; exact hs)
  ·subst h; exact hne (hm2.symm.trans hn2)
  ·exact List.pairwise_iff_getElem.1 hu n m hn hm h (by rw [hm2, hn2]; exact same_symm hs)
 rw [hx, this]
theorem busy_iff {es : List Env.T} (hu : es.Pairwise fun a b => ¬ same a b) {e : Env.T} {i : Nat} (hi : e.rnd = (i : Int)) : busy es e ↔ ∃ x, getE es i e.acc = some x ∧ e.ser ≤ x.ser := by
 constructor
 ·rintro ⟨x, hx, hs, hl⟩
  have := getE_of hu hx (hs.2.trans hi)
  rw [hs.1] at this
  exact ⟨x, this, hl⟩
 ·rintro ⟨x, hx, hl⟩
  obtain ⟨h1, h2, h3⟩ := getE_some hx
  exact ⟨x, h1, ⟨h3, h2.trans hi.symm⟩, hl⟩
theorem mem_put {es : List Env.T} {e x : Env.T} : x ∈ put es e ↔ x = e ∨ (x ∈ es ∧ ¬ same x e) := by
 unfold put
 rw [List.mem_append, List.mem_singleton, List.mem_filter]
 simp only [decide_eq_true_eq]
 exact Or.comm
theorem put_uni {es : List Env.T} (hu : es.Pairwise fun a b => ¬ same a b) (e : Env.T) : (put es e).Pairwise fun a b => ¬ same a b := by
 unfold put
 refine List.pairwise_append.2 ⟨hu.filter _, List.pairwise_singleton _ _, fun a ha b hb => ?_⟩
 rw [List.mem_singleton.1 hb]
 simpa using (List.mem_filter.1 ha).2
theorem find_filter {α : Type} (p q : α → Bool) (l : List α) (h : ∀ x ∈ l, p x = true → q x = true) : (l.filter q).find? p = l.find? p := by
 induction l with
 | nil => rfl
 | cons a l ih =>
  have ih' := ih fun x hx => h x (List.mem_cons_of_mem _ hx)
  by_cases hp : p a = true
  ·rw [List.filter_cons, if_pos (h a List.mem_cons_self hp), List.find?_cons, List.find?_cons, hp]
  ·have hp' : p a = false := by simpa using hp
   rw [List.filter_cons]
   split
   ·rw [List.find?_cons, List.find?_cons, hp']; exact ih'
   ·rw [List.find?_cons, hp']; exact ih'
theorem getE_put_self {es : List Env.T} {e : Env.T} {i : Nat} (hi : e.rnd = (i : Int)) : getE (put es e) i e.acc = some e := by
 unfold getE put
 rw [List.find?_append, List.find?_eq_none.2 (fun x hx => ?_)]
 ·simp [hi]
 ·have h := (List.mem_filter.1 hx).2
  simp only [decide_eq_true_eq] at h ⊢
  intro h2
  exact h ⟨h2.2, h2.1.trans hi.symm⟩
theorem getE_put_ne {es : List Env.T} {e : Env.T} {i : Nat} {nm : List UInt8} (h : ¬ (e.rnd = (i : Int) ∧ e.acc = nm)) : getE (put es e) i nm = getE es i nm := by
 unfold getE put
 rw [List.find?_append, find_filter _ _ _ (fun x _ hx => ?_)]
 ·rw [show [e].find? (fun x => decide (x.rnd = (i : Int) ∧ x.acc = nm)) = none from List.find?_eq_none.2 fun x hx => by rw [List.mem_singleton.1 hx]; simpa using h, Option.or_none]
 ·simp only [decide_eq_true_eq] at hx ⊢
  exact fun hs => h ⟨hs.2 ▸ hx.1, hs.1 ▸ hx.2⟩
theorem Good.sub {s : S} (h : Good s) (e : Env.T) (now : Int) : Good (subS s e now) := by
 unfold subS
 split
 ·rename_i h0
  unfold subE at h0
  split at h0
  ·cases h0
  ·rename_i h1
   split at h0
   ·cases h0
   ·rename_i h2
    split at h0
    ·cases h0
    ·split at h0
     ·rename_i h4; exact absurd h0 h4
     ·rename_i h4
      split at h0
      ·cases h0
      ·split at h0
       ·cases h0
       ·rename_i h6
        have h1 : Env.ok e ∧ time now := Classical.not_not.1 h1
        have h2 : s.ck ≤ now ∧ has s e.rnd := Classical.not_not.1 h2
        refine ⟨h.fine, h.win, h.kl, h.k32, put_uni h.uni e, fun x hx => ?_, fun x hx => ?_, by simp; omega, h1.2⟩
        ·rcases mem_put.1 hx with rfl | ⟨hx, _⟩
         ·exact ⟨by simpa using h4, h2.2⟩
         ·exact h.aut x hx
        ·rcases List.mem_append.1 hx with hx | hx
         ·exact h.fit x hx
         ·rw [List.mem_singleton.1 hx]
          have a1 := Env.sgnT_len h1.1
          have a2 := (Env.ok_len h1.1).2.2.2.2.2.2.2
          have a3 := strE_len (b := e.tag) o9
          have a4 : (Env.enc e).length ≤ 4300 := by unfold Env.enc; rw [List.length_append]; omega
          have a5 := strE_len (b := Env.enc e) o9
          have a6 := ZR (n := now.toNat) (by have := h1.2.2; omega)
          exact ⟨(by show (0 : Int) ≤ 1; decide), (by show (1 : Int) ≤ 255; decide), by show (subP e now).length ≤ 65536; unfold subP; rw [List.length_append]; omega⟩
 ·exact h
theorem Good.rev {s : S} (h : Good s) (r : Int) (key : List UInt8) (now : Int) : Good (revS s r key now) := by
 unfold revS
 split
 ·rename_i h0
  unfold revE at h0
  split at h0
  ·cases h0
  ·rename_i h1
   split at h0
   ·cases h0
   ·rename_i h2
    split at h0
    ·cases h0
    ·split at h0
     ·cases h0
     ·split at h0
      ·cases h0
      ·rename_i h6
       have h1 : key.length = 32 ∧ time now := Classical.not_not.1 h1
       have h2 : s.ck ≤ now ∧ has s r := Classical.not_not.1 h2
       have hwl := h.win.1.2
       refine ⟨h.fine, h.win, by simp [h.kl], fun k hk => ?_, h.uni, h.aut, fun x hx => ?_, by simp; omega, h1.2⟩
       ·rcases List.mem_or_eq_of_mem_set hk with hk | rfl
        ·exact h.k32 k hk
        ·exact .inr h1.1
       ·rcases List.mem_append.1 hx with hx | hx
        ·exact h.fit x hx
        ·rw [List.mem_singleton.1 hx]
         have a5 := strE_len (b := key) o9
         have a6 := ZR (n := now.toNat) (by have := h1.2.2; omega)
         have a7 := ZR (n := r.toNat) (by have := h2.2.2; omega)
         exact ⟨(by show (0 : Int) ≤ 2; decide), (by show (2 : Int) ≤ 255; decide), by show (revP r key now).length ≤ 65536; unfold revP; rw [List.length_append, List.length_append]; omega⟩
 ·exact h
def start (bk : List Acc.T) (ws : List Win) : S := ⟨bk, ws, [], List.replicate ws.length [], 0, []⟩
theorem good_start {bk : List Acc.T} {ws : List Win} (hf : Acc.Fine bk) (hw : ok ws) : Good (start bk ws) := ⟨hf, hw, by simp [start], fun k hk => .inl (List.eq_of_mem_replicate hk), List.Pairwise.nil, fun e he => by simp [start] at he, fun e he => by simp [start] at he, by simp [start], by show time 0; decide⟩
end Rnd
end Go.Proofs.YtgokpcnabgacnaaGreatDoor
namespace Go.Proofs.YtgokpcnabgacnaaGreatDoor
open Go.RowKit
namespace Sx
def capD (b : List UInt8) : D := ⟨fun L w v => (∃ A, v = .slice A b.length b.length) ∧ (bD b).R L w v,
 fun h ho hS => ⟨h.1, (bD b).keep h.2 ho hS⟩, fun h hS => ⟨h.1, (bD b).less h.2 hS⟩⟩
section
variable {P : Program} {Γ : Cx} {σ : St} {S : List Nat} {dst : Option Tmp} {ty : TypeId} {pos : String} {af : Array Edge} {gd : Option (Nat × Bool)}
theorem Ef.markK {x : Operand} {T e k c : Nat} {A : Option Addr} {F : List Nat} {b : List UInt8} (j : Nat) (hx : σ.ev x = some (isD (.slice A b.length c))) (hj : σ.bx[j]? = some (.r F (yb e 1 Z2 A c b))) (hT : Zr P T e = true) (he : intT P e .u8 = true) (h0 : 0 < b.length) (hc : c = b.length) (hS : ∀ g ∈ F, g ∈ S) (hk : yk Γ.nt k = true) :
  Ef P Γ S ⟨some k, .convert T T x, ty, pos, af, gd⟩ σ (fun σ' => σ' = (⟨σ.tm, yD σ.bx 0 [j]⟩ : St).put k (capD b)) := by
 subst hc
 intro a w hh K Q hK
 have hxv : a.eval x = .slice A b.length b.length := zD hh hx
 obtain ⟨g, cur, xs, rfl, rfl, hg, hnc, hm, hcs, htk, hxl, ha⟩ := vec_some (hh.resAt hj) h0
 have hsh : w.shape? g = some (e, cur.size) := by simp [World.shape?, hg]
 have e2 : (execOp a.eval ⟨some k, .convert T T x, ty, pos, af, gd⟩).run P w = .ok (.value (.slice (some ⟨g, 0, none⟩) b.length b.length)) (w.freeze ⟨g, cur.size, none⟩ 1) := by
  simp [execOp, hxv, convert, run_underlying (yg hT), run_underlying (intT_spec he), markStringish, hsh]
 unfold Oper.wp
 rw [e2]
 have ho : Only [g] w (w.freeze ⟨g, cur.size, none⟩ 1) := only_freeze
 have hmem := List.mem_of_getElem? hj
 have h1 : Holds Γ ⟨σ.tm, yD σ.bx 0 [j]⟩ a (w.freeze ⟨g, cur.size, none⟩ 1) := by
  refine hh.swap ho (fun x hx => mem_fps.2 ⟨_, hmem, hx⟩) (fun b' hb' => .inl ⟨dropAt_sub hb', fun x hx hm => ?_⟩) (fun x hx => .inl (Zw hx)) (Ye hh.nd)
  have h2 := Yr hh hj (g := x) hx
  exact h2 (List.mem_append_left _ (mem_fps.2 ⟨b', hb', hm⟩))
 have hoff := Yr hh hj (g := g) (List.mem_singleton.2 rfl)
 rw [Z4] at ha
 have hxs := all_isD ha
 subst hxs
 refine hK _ _ _ rfl (h1.put (by simpa [yk] using hk) ⟨⟨_, rfl⟩, some ⟨g, 0, none⟩, b.length, by rw [zv], by rw [zv]; exact hnc, fun _ => ⟨g, 0, rfl, ?_, fun i hi => ?_⟩, fun _ p hp hm => ?_⟩) (ho.mono (fun x hx _ => hS x hx))
 ·exact Nat.lt_of_lt_of_le (Array.getElem?_eq_some_iff.1 hg).1 ho.size
 ·rw [cell_freeze, Nat.zero_add]
  have hb : w.cell? ⟨g, i, none⟩ = cur[i]? := by simp [World.cell?, hg]
  rw [hb, ← htk, List.getElem?_take]
  have : i < b.length * 1 := by simpa using hi
  rw [if_pos this]
  simp
 ·injection hp with hp
  subst hp
  exact hoff hm
theorem rv_add {A : Option Addr} {w : World} {b : List UInt8} (h : RV w A (cellsOf b)) (h0 : 0 < b.length) : ∃ p, A = some p ∧ ∀ (j : Nat) v, (cellsOf b)[j]? = some v → w.cell? (p.add j) = some v := by
 obtain ⟨g, o, e, _, hc⟩ := h (by simpa using h0)
 refine ⟨_, e, fun j v hv => ?_⟩
 have hj := (List.getElem?_eq_some_iff.1 hv).1
 rw [Addr.add_mid, hc j hj, hv]
theorem Ef.appK {x y : Operand} {T e k : Nat} {b b' : List UInt8} (hx : σ.ev x = some (capD b)) (hy : σ.ev y = some (bD b')) (h0 : 0 < b.length) (h1 : 0 < b'.length) (hT : Zr P T e = true) (hE : elT P e 1 1 = true) (hlen : b.length + b'.length ≤ 1099511627776) (hk : yk Γ.nt k = true) :
  Ef P Γ S ⟨some k, .call { callee := .builtin .append, args := #[x, y], argTypes := #[T, T] }, ty, pos, af, gd⟩ σ (fun σ' => ∃ g c, σ' = (⟨σ.tm, σ.bx ++ [.r [g] (yb e 1 Z2 (some ⟨g, 0, none⟩) c (b ++ b'))]⟩ : St).put k (isD (.slice (some ⟨g, 0, none⟩) (b ++ b').length c))) := by
 intro a w hh K Q hK
 obtain ⟨⟨A, hxv⟩, hb⟩ := zD hh hx
 obtain ⟨A1, c1, e1, _, hr1⟩ := b_out hb
 rw [hxv] at e1
 injection e1 with e1 _ _
 subst e1
 obtain ⟨B, c2, hyv, _, hr2⟩ := b_out (zD hh hy)
 obtain ⟨p, rfl, hp⟩ := rv_add hr1 h0
 obtain ⟨q, rfl, hq⟩ := rv_add hr2 h1
 obtain ⟨i, z, hI, i1, i2, i3, i4⟩ := elT_spec hE
 have hrun := run_append_grow (P := P) w T ty e i z (yg hT) hI i3 p b.length b.length (cellsOf b) (by rw [i1]; simp) hp q b'.length c2 (cellsOf b') (by rw [i1]; simp) hq o9 o9 (growslice_fits o9 (by rw [i2]; omega))
 obtain ⟨cp, hcp⟩ : ∃ cp, cp = grownCap w (b.length + b'.length) b.length e := ⟨_, rfl⟩
 have hge : b.length + b'.length ≤ cp := by rw [hcp]; exact grownCap_ge _ _ _ _
 have hle : cp ≤ maxLen := by rw [hcp]; exact grownCap_le_maxLen _ _ _ _ (by simp only [maxLen]; omega)
 rw [← hcp] at hrun
 have e2 : (execOp a.eval ⟨some k, .call { callee := .builtin .append, args := #[x, y], argTypes := #[T, T] }, ty, pos, af, gd⟩).run P w = .ok (.value (.slice (some ⟨w.heap.size, 0, none⟩) (b.length + b'.length) cp)) (w.drew.alloc (.cells ((cellsOf b).toArray ++ (cellsOf b').toArray ++ Builtin.zeroCells z.cells (cp - (b.length + b'.length))) e)) := by
  simp only [execOp, resolve, invoke, builtin, Sem.run_bind, Sem.run_pure, Result.andThen_ok, List.map_toArray, List.map_cons, List.map_nil, hxv, hyv, hrun]
 have hOn : Only [] w (w.drew.alloc (.cells ((cellsOf b).toArray ++ (cellsOf b').toArray ++ Builtin.zeroCells z.cells (cp - (b.length + b'.length))) e)) := ((Only.refl [] w).drew).alloc _
 have hcl : (cellsOf b ++ cellsOf b').length = (b ++ b').length * 1 := by simp
 have h6 := hh.more hOn (b := .r [w.heap.size] (yb e 1 Z2 (some ⟨w.heap.size, 0, none⟩) cp (b ++ b'))) ⟨cellsOf b ++ cellsOf b', by rw [Z4, show cellsOf (b ++ b') = cellsOf b ++ cellsOf b' by simp [cellsOf]]; exact all_is _, ⟨hcl, .inr ⟨w.heap.size, cp, _, rfl, Nat.zero_le _, heap_alloc_new w.drew _, by rw [List.length_append]; exact hge, hle, by simp [Builtin.zeroCells, i4]; omega, by
  rw [← hcl, Array.toList_append, Array.toList_append]
  exact List.take_left⟩⟩, rfl⟩ (fun g hg => by rw [List.mem_singleton.1 hg]; exact Nat.le_refl _) (by simp [Box.fp])
 unfold Oper.wp
 rw [e2]
 exact hK _ _ _ ⟨_, _, rfl⟩ (h6.put (by simpa [yk] using hk) (show Value.slice _ _ _ = Value.slice _ _ _ by rw [List.length_append])) (hOn.mono (fun x hx _ => by cases hx))
end
section
variable {P : Program} {Γ : Cx} {σ σ' : St} {S : List Nat} {l : List Oper} {Q : Exit → Act → World → Prop} {tz uz : Reg.Tz} {k : Nat} {op : Op} {ty : TypeId} {pos : String} {af : Array Edge}
end
end Sx
end Go.Proofs.YtgokpcnabgacnaaGreatDoor
namespace Go.Proofs.YtgokpcnabgacnaaGreatDoor
open Go.RowKit
namespace Sx
def packR {ι : Type} (bs : ι → List Box) : Res where
 R L F w := ∃ i, F = fps (bs i) ∧ (fps (bs i)).Nodup ∧ ∀ b ∈ bs i, b.R L w
 lt := fun ⟨_, hF, _, h⟩ g hg => by
  subst hF
  obtain ⟨b, hb, hgb⟩ := mem_fps.1 hg
  exact Box.lt (h b hb) g hgb
 keep := fun ⟨i, hF, hn, h⟩ ho hS hF' => ⟨i, hF, hn, fun b hb => Box.keep (h b hb) ho hS (fun x hx hm => hF' x hx (by subst hF; exact mem_fps.2 ⟨b, hb, hm⟩))⟩
 less := fun ⟨i, hF, hn, h⟩ hL => ⟨i, hF, hn, fun b hb => Box.less (h b hb) hL⟩
theorem fps_one (F : List Nat) (R : Res) : fps [.r F R] = F := by simp [fps, Box.fp]
theorem opens_out {ι : Type} {bs : ι → List Box} {F : List Nat} : Opens [.r F (packR bs)] (fun post => ∃ i, post = bs i) := fun L w _ h => by
 obtain ⟨i, hF, hn, hb⟩ := h _ (List.mem_singleton.2 rfl)
 rw [fps_one] at hb ⊢
 subst hF
 exact ⟨bs i, ⟨i, rfl⟩, hb, hn, fun g hg => hg⟩
theorem opens_in {ι : Type} {bs : ι → List Box} (i : ι) : Opens (bs i) (fun post => ∃ F, post = [.r F (packR bs)]) := fun L w hn h =>
 ⟨[.r (fps (bs i)) (packR bs)], ⟨_, rfl⟩, fun b hb => by rw [List.mem_singleton.1 hb, fps_one]; exact ⟨i, rfl, hn, h⟩, by rw [fps_one]; exact hn, fun g hg => by rw [fps_one] at hg; exact hg⟩
section
variable {P : Program}
theorem opens_le {F F' : List Nat} {R R' : Res} (h : F = F' ∧ ∀ L w, R.R L F w → R'.R L F w) : Opens [.r F R] (fun q => ∃ G, q = [.r G R']) := fun L w hn hb => ⟨[.r F R'], ⟨F, rfl⟩, fun b hm => by
 rw [List.mem_singleton.1 hm]
 have := hb _ (List.mem_singleton.2 rfl)
 rw [fps_one] at this ⊢
 exact h.2 _ _ this, by rw [fps_one] at hn ⊢; exact hn, fun g hg => by rw [fps_one] at hg ⊢; exact hg⟩
theorem ConR.perm {f : FuncId} {ad : List D} {ι : Type} {pre pre' : List Box} {post post' : ι → List Box} {d : ι → D} (h : ConR P f pre ad post d) (h1 : pre.Perm pre') (h2 : ∀ i, (post i).Perm (post' i)) : ConR P f pre' ad post' d := by
 have e1 : (fps pre).Perm (fps pre') := h1.flatMap_right _
 refine ⟨h.en, fun L w vs hL hG hgF hg hnd hbk ha => ?_⟩
 have m1 : ∀ {L' : List Nat} {n : Nat} {x : Nat}, x ∈ fps pre ++ L → x ∈ fps pre' ++ L ∨ n ≤ x := fun {L' n x} hx => .inl (by
  rcases List.mem_append.1 hx with hx | hx
  ·exact List.mem_append_left _ (e1.mem_iff.1 hx)
  ·exact List.mem_append_right _ hx)
 refine (h.go L w vs hL hG (fun g hg' => hgF g (e1.mem_iff.1 hg')) (fun g hg' => hg g (e1.mem_iff.1 hg')) (e1.nodup_iff.2 hnd) (fun b hb => Box.less (hbk b (h1.mem_iff.1 hb)) (fun x hx => m1 (L' := []) hx)) (ha.less (fun x hx => m1 (L' := []) hx))).mono ?_
 rintro r w' ⟨i, v, rfl, hd, hR, hn', hnw, ho⟩
 have e2 : (fps (post i)).Perm (fps (post' i)) := (h2 i).flatMap_right _
 have m2 : ∀ x, x ∈ fps (post' i) ++ L → x ∈ fps (post i) ++ L ∨ w'.heap.size ≤ x := fun x hx => .inl (by
  rcases List.mem_append.1 hx with hx | hx
  ·exact List.mem_append_left _ (e2.mem_iff.2 hx)
  ·exact List.mem_append_right _ hx)
 exact ⟨i, v, rfl, (d i).less hd m2, fun b hb => Box.less (hR b ((h2 i).mem_iff.2 hb)) m2, e2.nodup_iff.1 hn', fun g hg' => (hnw g (e2.mem_iff.2 hg')).imp_left (e1.mem_iff.1 ·), ho.mono (fun x hx _ => e1.mem_iff.1 hx)⟩
end
theorem Opens.refl {pre : List Box} {T : List Box → Prop} (h : T pre) : Opens pre T := fun _ _ hn hb => ⟨pre, h, hb, hn, fun _ hg => hg⟩
theorem Opens.trans {pre : List Box} {T U : List Box → Prop} (h : Opens pre T) (k : ∀ p, T p → Opens p U) : Opens pre U := fun L w hn hb => by
 obtain ⟨p, hp, h1, h2, h3⟩ := h L w hn hb
 obtain ⟨q, hq, k1, k2, k3⟩ := k p hp L w h2 h1
 exact ⟨q, hq, k1, k2, fun g hg => h3 g (k3 g hg)⟩
theorem Opens.frame {pre : List Box} {T : List Box → Prop} (h : Opens pre T) (rest : List Box) : Opens (pre ++ rest) (fun q => ∃ p, T p ∧ q = p ++ rest) := fun L w hn hb => by
 rw [Zv] at hn hb
 have hm : ∀ {n x : Nat}, x ∈ fps pre ++ (fps rest ++ L) → x ∈ fps pre ++ fps rest ++ L ∨ n ≤ x := fun hx => .inl (by rw [List.append_assoc]; exact hx)
 obtain ⟨p, hp, h1, h2, h3⟩ := h (fps rest ++ L) w (List.nodup_append.1 hn).1 (fun b hb' => Box.less (hb b (List.mem_append_left _ hb')) (fun _ hx => hm hx))
 have hd := (List.nodup_append.1 hn).2.2
 refine ⟨p ++ rest, ⟨p, hp, rfl⟩, fun b hb' => ?_, ?_, fun g hg => ?_⟩
 ·rw [Zv]
  rcases List.mem_append.1 hb' with hb' | hb'
  ·exact Box.less (h1 b hb') (fun x hx => .inl (by rw [← List.append_assoc]; exact hx))
  ·refine Box.less (hb b (List.mem_append_right _ hb')) (fun x hx => .inl ?_)
   rcases List.mem_append.1 hx with hx | hx
   ·rcases List.mem_append.1 hx with hx | hx
    ·exact List.mem_append_left _ (List.mem_append_left _ (h3 x hx))
    ·exact List.mem_append_left _ (List.mem_append_right _ hx)
   ·exact List.mem_append_right _ hx
 ·rw [Zv]
  exact List.nodup_append.2 ⟨h2, (List.nodup_append.1 hn).2.1, fun a ha b hb' => hd a (h3 a ha) b hb'⟩
 ·rw [Zv] at hg ⊢
  rcases List.mem_append.1 hg with hg | hg
  ·exact List.mem_append_left _ (h3 g hg)
  ·exact List.mem_append_right _ hg
theorem Opens.perm {pre pre' : List Box} {T : List Box → Prop} (h : Opens pre T) (hp : pre.Perm pre') : Opens pre' T := fun L w hn hb => by
 have e1 : (fps pre).Perm (fps pre') := hp.flatMap_right _
 obtain ⟨q, hq, h1, h2, h3⟩ := h L w (e1.nodup_iff.2 hn) (fun b hb' => Box.less (hb b (hp.mem_iff.1 hb')) (fun x hx => .inl (by
  rcases List.mem_append.1 hx with hx | hx
  ·exact List.mem_append_left _ (e1.mem_iff.1 hx)
  ·exact List.mem_append_right _ hx)))
 exact ⟨q, hq, h1, h2, fun g hg => e1.mem_iff.1 (h3 g hg)⟩
theorem Opens.cons {pre : List Box} {T : List Box → Prop} (h : Opens pre T) (b : Box) : Opens (b :: pre) (fun q => ∃ p, T p ∧ q = b :: p) :=
 ((h.frame [b]).perm List.perm_append_comm).trans fun q ⟨p, hp, hq⟩ => by
  subst hq
  exact (Opens.refl (T := fun q => ∃ p, T p ∧ q = b :: p) ⟨p, hp, rfl⟩ : Opens (b :: p) _).perm (List.perm_append_comm (l₁ := [b]) (l₂ := p))
theorem ConR.reshape {P : Program} {f : FuncId} {ad : List D} {ι κ : Type} {pre : List Box} {post : ι → List Box} {post' : κ → List Box} {d : ι → D} {d' : κ → D} (h : ConR P f pre ad post d) (ho : ∀ i, Opens (post i) (fun q => ∃ k, q = post' k ∧ Le (d i) (d' k))) : ConR P f pre ad post' d' := by
 refine ⟨h.en, fun L w vs hL hG hgF hg hnd hbk ha => (h.go L w vs hL hG hgF hg hnd hbk ha).mono ?_⟩
 rintro r w' ⟨i, v, rfl, hd, hR, hn', hnw, hO⟩
 obtain ⟨q, ⟨k, rfl, hle⟩, h1, h2, h3⟩ := ho i L w' hn' hR
 refine ⟨k, v, rfl, hle _ _ _ ((d i).less hd fun x hx => .inl ?_), h1, h2, fun g hg' => hnw g (h3 g hg'), hO⟩
 rcases List.mem_append.1 hx with hx | hx
 ·exact List.mem_append_left _ (h3 x hx)
 ·exact List.mem_append_right _ hx
theorem ConR.preshape {P : Program} {f : FuncId} {ad : List D} {ι κ : Type} {pre : κ → List Box} {pre' : List Box} {post : ι → List Box} {d : ι → D} (h : ∀ k, ConR P f (pre k) ad post d) (hen : enters P f) (ho : Opens pre' (fun q => ∃ k, q = pre k)) : ConR P f pre' ad post d := by
 refine ⟨hen, fun L w vs hL hG hgF hg hnd hbk ha => ?_⟩
 obtain ⟨q, ⟨k, rfl⟩, h1, h2, h3⟩ := ho L w hnd hbk
 refine ((h k).go L w vs hL hG (fun g hg' => hgF g (h3 g hg')) (fun g hg' => hg g (h3 g hg')) h2 h1 (ha.less fun x hx => .inl ?_)).mono ?_
 ·rcases List.mem_append.1 hx with hx | hx
  ·exact List.mem_append_left _ (h3 x hx)
  ·exact List.mem_append_right _ hx
 ·rintro r w' ⟨i, v, rfl, hd, hR, hn', hnw, hO⟩
  exact ⟨i, v, rfl, hd, hR, hn', fun g hg' => (hnw g hg').imp_left (h3 g), hO.mono (fun x hx _ => h3 x hx)⟩
section
variable {P : Program} {Γ : Cx} {σ : St} {Q : Exit → Act → World → Prop}
theorem zK {c : Code} {pre : List Box} {T : List Box → Prop} (ho : Opens pre T) (js : List Nat) (hjs : js.Nodup) (hs : SubBx σ.bx js pre) (h : ∀ post, T post → SW P Γ (σ.give js post) c Q) : SW P Γ σ c Q := SW.opens js hjs hs ho h
theorem SWl.opensP {ops : Array Oper} {l : List Oper} {pre : List Box} {T : List Box → Prop} (ho : Opens pre T) (js : List Nat) (hjs : js.Nodup) (hs : SubBx σ.bx js pre) (h : ∀ post, T post → SWl P Γ ops Q l (σ.give js post)) : SWl P Γ ops Q l σ := SWl.opens js hjs hs ho h
theorem SN.opensP {pre : List Box} {T : List Box → Prop} (ho : Opens pre T) (js : List Nat) (hjs : js.Nodup) (hs : SubBx σ.bx js pre) (h : ∀ post, T post → SN Γ Q (σ.give js post)) : SN Γ Q σ := SN.opens js hjs hs ho h
end
theorem ConR.lookedE {P : Program} {f : FuncId} {pre : List Box} {ι : Type} {post : ι → List Box} {d : ι → D} {p : D} {k : Int} {b : List UInt8} (hen : enters P f)
  (h : ∀ A c, ConR P f (pre ++ [.r [] (viewR (.slice A b.length c) (cellsOf b))]) [p, yX [iD k, isD (.slice A b.length c)]] (fun i => post i ++ [.r [] (viewR (.slice A b.length c) (cellsOf b))]) d) : ConR P f pre [p, yX [iD k, bD b]] post d := by
 refine ⟨hen, fun L w vs hL hG hgF hg hnd hbk ha => ?_⟩
 match vs, ha with
 | [v0, v1], ⟨h0, ⟨cs, hv, hc⟩, _⟩ =>
  obtain ⟨x, y, rfl, hx, hy⟩ := all2 hc
  obtain ⟨A, c, rfl, hlc, hr, hoff⟩ := hy
  rw [zv] at hlc
  have e : ∀ q : List Box, fps (q ++ [.r [] (viewR (.slice A b.length c) (cellsOf b))]) = fps q := fun q => by rw [Zv]; simp [fps, Box.fp]
  have hvw : (viewR (.slice A b.length c) (cellsOf b)).R (fps pre ++ L) [] w := ⟨⟨A, c, by rw [zv], by rw [zv]; exact hlc, hr, fun h0 q hq => .inr (hoff h0 q hq)⟩, by simp⟩
  have := (h A c).go L w [v0, v1] hL hG (by rw [e]; exact hgF) (by rw [e]; exact hg) (by rw [e]; exact hnd) (fun q hq => by
   rw [e]
   rcases List.mem_append.1 hq with hq | hq
   ·exact hbk q hq
   ·rw [List.mem_singleton.1 hq]; exact hvw) (by rw [e]; exact ⟨h0, ⟨[x, .slice A b.length c], by rw [hv, zv], hx, rfl, trivial⟩, trivial⟩)
  refine this.mono ?_
  rintro r w' ⟨i, v, rfl, hd, hR, hn', hnw, hO⟩
  rw [e] at hd hn' hnw; rw [e] at hnw
  rw [e] at hO
  exact ⟨i, v, rfl, hd, fun q hq => by have := hR q (List.mem_append_left _ hq); rw [e] at this; exact this, hn', hnw, hO⟩
structure ConS (P : Program) (f : FuncId) (pre : List Box) (ad : List D) {ι : Type} (post : ι → List Box) (d : ι → D) : Prop where
 en : enters P f
 go : ∀ (L : List Nat) (w : World) (vs : List Value), (∀ x ∈ L, x < w.heap.size) → glob.R w → (∀ g ∈ fps pre, g ∉ glob.F) → (∀ g ∈ fps pre, g ∉ L) → (fps pre).Nodup → (∀ b ∈ pre, b.R (fps pre ++ L) w) → All (fps pre ++ L) w ad vs →
  Calls P f vs.toArray w fun e w' => ∃ i v, e = .returned v ∧ (d i).R (fps (post i) ++ L) w' v ∧ (∀ b ∈ post i, b.R (fps (post i) ++ L) w') ∧ (fps (post i)).Nodup ∧ (∀ g ∈ fps (post i), g ∈ fps pre ∨ w.heap.size ≤ g) ∧ Only [] w w'
theorem ConS.reshape {P : Program} {f : FuncId} {ad : List D} {ι κ : Type} {pre : List Box} {post : ι → List Box} {post' : κ → List Box} {d : ι → D} {d' : κ → D} (h : ConS P f pre ad post d) (ho : ∀ i, Opens (post i) (fun q => ∃ k, q = post' k ∧ Le (d i) (d' k))) : ConS P f pre ad post' d' := by
 refine ⟨h.en, fun L w vs hL hG hgF hg hnd hbk ha => (h.go L w vs hL hG hgF hg hnd hbk ha).mono ?_⟩
 rintro r w' ⟨i, v, rfl, hd, hR, hn', hnw, hO⟩
 obtain ⟨q, ⟨k, rfl, hle⟩, h1, h2, h3⟩ := ho i L w' hn' hR
 refine ⟨k, v, rfl, hle _ _ _ ((d i).less hd fun x hx => .inl ?_), h1, h2, fun g hg' => hnw g (h3 g hg'), hO⟩
 rcases List.mem_append.1 hx with hx | hx
 ·exact List.mem_append_left _ (h3 x hx)
 ·exact List.mem_append_right _ hx
theorem ConS.preshape {P : Program} {f : FuncId} {ad : List D} {ι κ : Type} {pre : κ → List Box} {pre' : List Box} {post : ι → List Box} {d : ι → D} (h : ∀ k, ConS P f (pre k) ad post d) (hen : enters P f) (ho : Opens pre' (fun q => ∃ k, q = pre k)) : ConS P f pre' ad post d := by
 refine ⟨hen, fun L w vs hL hG hgF hg hnd hbk ha => ?_⟩
 obtain ⟨q, ⟨k, rfl⟩, h1, h2, h3⟩ := ho L w hnd hbk
 refine ((h k).go L w vs hL hG (fun g hg' => hgF g (h3 g hg')) (fun g hg' => hg g (h3 g hg')) h2 h1 (ha.less fun x hx => .inl ?_)).mono ?_
 ·rcases List.mem_append.1 hx with hx | hx
  ·exact List.mem_append_left _ (h3 x hx)
  ·exact List.mem_append_right _ hx
 ·rintro r w' ⟨i, v, rfl, hd, hR, hn', hnw, hO⟩
  exact ⟨i, v, rfl, hd, hR, hn', fun g hg' => (hnw g hg').imp_left (h3 g), hO⟩
theorem ConS.toR {P : Program} {f : FuncId} {ad : List D} {ι : Type} {pre : List Box} {post : ι → List Box} {d : ι → D} (h : ConS P f pre ad post d) : ConR P f pre ad post d :=
 ⟨h.en, fun L w vs hL hG hgF hg hnd hbk ha => (h.go L w vs hL hG hgF hg hnd hbk ha).mono fun _ _ ⟨i, v, h1, h2, h3, h4, h5, h6⟩ => ⟨i, v, h1, h2, h3, h4, h5, h6.mono (fun x hx _ => by cases hx)⟩⟩
section
variable {P : Program} {Γ : Cx} {σ : St} {S : List Nat} {dst : Option Tmp} {ty : TypeId} {pos : String} {af : Array Edge} {gd : Option (Nat × Bool)} {Q : Exit → Act → World → Prop}
end
end Sx
end Go.Proofs.YtgokpcnabgacnaaGreatDoor
