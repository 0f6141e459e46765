/- ACCOUNTS: named, Valid, copied. ACCOUNTS: books as things. ACCOUNTS: put. ACCOUNTS: put, in one. -/
import Derived.Test.YtgokpcnabgacnaaGreatDoorGZAI
set_option maxHeartbeats 8000000
set_option maxRecDepth 100000
namespace Go.Proofs.YtgokpcnabgacnaaGreatDoor
open Go.RowKit
namespace Sx
theorem con_cloneB (b:LB) (hb:b.length≤1000000):ConN Tryz.prog 53 [bD b] (bD b):=by
 refine yJ Tryz.func53 k9 V k9 fun base w0=>(zh (SW.lookB 0 V fun A c=>(zb (za V (zg V) (zf (zc (zh (zh (zb (za V (ze V) (za V (Rd.eqN (e:=5) V V k9) (zf (zc (zI V (fun hb4=> ?_) (fun hb4=> ?_)))))))))))))))
 ·refine SW.viewN 0 V hb4 fun hnil=>(zh (zb (za V (zg V) (zf (zc (zR (fn:=Tryz.f53) (fun _ _ h=>h) (Rs.le (Rs.one V (zp V)) ?_)))))));subst hnil;exact Le.trans (zv (x:= .slice none 0 0)) (le_nw_mono (Nat.le_refl _) Zz)
 ·skip
  refine zu (zc (zh (zb (zl (S:=[]) (Ef.lit0 (e:=5) ZP 1 1 k9 k9 V) ?_))));rintro _ ⟨g5,rfl⟩
  refine za V (ze V) (zl (Zf 1 1 1 V V (SrcT.view 0 V V) k9 k9 (by simp <;> omega) d9 (fun _ h=>h) V) ?_)
  rintro _ ⟨A7,F7,c7,rfl⟩;refine za V (zg V) (zf (zc (SW.freezeNB 1 2 V V V (zR (fn:=Tryz.f53) (fun _ _ h=>h) (Rs.le (Rs.one V (zp V)) ?_)))));exact zd _
theorem con_named (s:LB):ConN Tryz.prog 159 [yp s] (yc (decide (Acc.isName s))):=by
 refine yJ Tryz.func159 k9 V k9 fun base w0=>(zh (zb (za V (zg V) (zf (zc (zh (zh (zb (za V (ze V) (za V (Rd.lenb V k9) (za V (yG V V) (za V (ze V) (zZ 8 V (fun hb8=> ?_) (fun hb8=> ?_))))))))))))))
 ·have h8:=oT hb8;refine zo V V (hb8) V V (zo V V (hb8) V V (zo V V (hb8) V V (za V (zD V (hb8) V) (zf (zc (yd V (V) (zh (zb (za V (zg V) (zf (zc (zR (fn:=Tryz.f159) (fun _ _ h=>h) (Rs.le (Rs.one V (zp V)) ?_)))))))))))))
  first | exact Le.trans (zS (fun h=>by have:=h.2.1;omega)) zv | exact Le.trans (zS (fun h=>by have:=h.2.2;omega)) zv | exact Le.trans (zS (fun h=>hbad (h.1 c (List.mem_of_getElem? hc)))) zv | exact Le.trans (le_decT ⟨fun d hd=>hi.2 d (by rw [List.take_of_length_le o9];exact hd),by omega,by omega⟩) zv
 ·have h8:=oF hb8;refine zm V V (hb8) V V (ze V) (zm V V (hb8) V V (Rd.lenb V k9) (zm V V (hb8) V V (ZK V V) (za V (zy V (hb8) V) (zf (zc (zI V (fun hb12=> ?_) (fun hb12=> ?_)))))))
  ·have h12:=oT hb12;refine zh (zb (za V (zg V) (zf (zc (zR (fn:=Tryz.f159) (fun _ _ h=>h) (Rs.le (Rs.one V (zp V)) ?_))))))
   first | exact Le.trans (zS (fun h=>by have:=h.2.1;omega)) zv | exact Le.trans (zS (fun h=>by have:=h.2.2;omega)) zv | exact Le.trans (zS (fun h=>hbad (h.1 c (List.mem_of_getElem? hc)))) zv | exact Le.trans (le_decT ⟨fun d hd=>hi.2 d (by rw [List.take_of_length_le o9];exact hd),by omega,by omega⟩) zv
  ·have h12:=oF hb12;refine zu (zc (zh (zh (zb (za V (ze V) (za V (Rd.lenb V k9) (za V (ze V) (zf (zc (zV (Zk (ι:={i:Nat // i≤s.length∧∀ c∈s.take i,Acc.chr c}) (fun i=>zK [(0,yp s),(14,iD (s.length:Int)),(15,iD (i.1:Int))] []) (fun i=>s.length - i.1) (⟨0,Nat.zero_le _,by simp⟩) ?_ ?_)))))))))))
   ·exact (sB [] V V)
   ·rintro ⟨i,hi⟩ K0 hK0;dsimp only at hi ⊢;refine zh (zb (za V (yG V V) (zf (zc (zh (zI V (fun hb16=> ?_) (fun hb16=> ?_)))))))
    ·have h16:=oT hb16;refine zu (zc (zh (zV (zh (zb (za V (ze V) (za V (zg V) (zf (zc (zh ?_))))))))));obtain ⟨c,hc⟩:∃ c,s[i]? =some c:=⟨_,List.getElem?_eq_getElem o9⟩;refine zb (za V (ze V) (za V (ze V) (za V (Rd.sidx V V k9 o9 (by simpa using hc)) (za V (zg V) (zf (zc (zh (zb (za V (ze V) (za V (yG V V) (za V (ze V) (zZ 23 V (fun hb23=> ?_) (fun hb23=> ?_)))))))))))))
     ·have h23:=oT hb23;refine zo V V (hb23) V V (zo V V (hb23) V V (za V (zD V (hb23) V) (za V (ze V) (zm V V (V) V V (ze V) (zm V V (V) V V (yG V V) (zm V V (V) V V (ze V) (zZ 30 V (fun hb30=> ?_) (fun hb30=> ?_))))))))
      ·have h30:=oT hb30;refine zo V V (hb30) V V (zo V V (hb30) V V (zm V V (V) V V (zD V (hb30) V) (za V (zD V (V) V) (za V (ze V) (zm V V (V) V V (ze V) (zm V V (V) V V (zX V V) (za V (zD V (V) V) (zf (zc (zI V (fun hb38=> ?_) (fun hb38=> ?_)))))))))))
       ·have hbad:¬Acc.chr c:=by (have h38:=hb38;simp only [Bool.not_eq_true',decide_eq_false_iff_not] at h38);unfold Acc.chr;omega
        refine zh (zb (za V (zg V) (zf (zc (zR (fn:=Tryz.f159) (fun _ _ h=>h) (Rs.le (Rs.one V (zp V)) ?_))))))
        first | exact Le.trans (zS (fun h=>by have:=h.2.1;omega)) zv | exact Le.trans (zS (fun h=>by have:=h.2.2;omega)) zv | exact Le.trans (zS (fun h=>hbad (h.1 c (List.mem_of_getElem? hc)))) zv | exact Le.trans (le_decT ⟨fun d hd=>hi.2 d (by rw [List.take_of_length_le o9];exact hd),by omega,by omega⟩) zv
       ·skip
        refine zu (yf (zc (zb (za V (yM V V ⟨by omega,by omega⟩) (za rfl (ze rfl) (zf ?_))))))
        have hgood:Acc.chr c:=by first | (unfold Acc.chr;omega) | ((have h38:=hb38;simp only [Bool.not_eq_false',decide_eq_true_eq] at h38);unfold Acc.chr;omega)
        exact fun a w hh=>hK0 (⟨i + 1,by omega,fun d hd=>by rw [yq hc] at hd;rcases List.mem_append.1 hd with hd | hd;exact hi.2 d hd;rw [List.mem_singleton.1 hd];exact hgood⟩) (by dsimp only;omega) a w (hh.sub (⟨⟨_,rfl,⟨lq rfl,⟨lq rfl,⟨⟨_,rfl,zE s9⟩,trivial⟩⟩⟩⟩,[],by decide,trivial⟩))
      ·have h30:=oF hb30;refine zm V V (hb30) V V (ze V) (zm V V (hb30) V V (ZK V V) (zm V V (V) V V (zy V (hb30) V) (za V (zD V (V) V) (za V (ze V) (zZ 35 V (fun hb35=> ?_) (fun hb35=> ?_))))))
       ·have h35:=oT hb35;refine zm V V (hb35) V V (ze V) (zm V V (hb35) V V (zX V V) (za V (zD V (hb35) V) (zf (zc (zI V (fun hb38=> ?_) (fun hb38=> ?_))))))
        ·have hbad:¬Acc.chr c:=by (have h38:=hb38;simp only [Bool.not_eq_true',decide_eq_false_iff_not] at h38);unfold Acc.chr;omega
         refine zh (zb (za V (zg V) (zf (zc (zR (fn:=Tryz.f159) (fun _ _ h=>h) (Rs.le (Rs.one V (zp V)) ?_))))))
         first | exact Le.trans (zS (fun h=>by have:=h.2.1;omega)) zv | exact Le.trans (zS (fun h=>by have:=h.2.2;omega)) zv | exact Le.trans (zS (fun h=>hbad (h.1 c (List.mem_of_getElem? hc)))) zv | exact Le.trans (le_decT ⟨fun d hd=>hi.2 d (by rw [List.take_of_length_le o9];exact hd),by omega,by omega⟩) zv
        ·skip
         refine zu (yf (zc (zb (za V (yM V V ⟨by omega,by omega⟩) (za rfl (ze rfl) (zf ?_))))))
         have hgood:Acc.chr c:=by first | (unfold Acc.chr;omega) | ((have h38:=hb38;simp only [Bool.not_eq_false',decide_eq_true_eq] at h38);unfold Acc.chr;omega)
         exact fun a w hh=>hK0 (⟨i + 1,by omega,fun d hd=>by rw [yq hc] at hd;rcases List.mem_append.1 hd with hd | hd;exact hi.2 d hd;rw [List.mem_singleton.1 hd];exact hgood⟩) (by dsimp only;omega) a w (hh.sub (⟨⟨_,rfl,⟨lq rfl,⟨lq rfl,⟨⟨_,rfl,zE s9⟩,trivial⟩⟩⟩⟩,[],by decide,trivial⟩))
       ·have h35:=oF hb35;refine zo V V (hb35) V V (zo V V (hb35) V V (za V (zy V (hb35) V) (zf (zc (zB V (V) (zu (yf (zc (zb (za V (yM V V ⟨by omega,by omega⟩) (za rfl (ze rfl) (zf ?_))))))))))))
        have hgood:Acc.chr c:=by first | (unfold Acc.chr;omega) | ((have h38:=hb38;simp only [Bool.not_eq_false',decide_eq_true_eq] at h38);unfold Acc.chr;omega)
        exact fun a w hh=>hK0 (⟨i + 1,by omega,fun d hd=>by rw [yq hc] at hd;rcases List.mem_append.1 hd with hd | hd;exact hi.2 d hd;rw [List.mem_singleton.1 hd];exact hgood⟩) (by dsimp only;omega) a w (hh.sub (⟨⟨_,rfl,⟨lq rfl,⟨lq rfl,⟨⟨_,rfl,zE s9⟩,trivial⟩⟩⟩⟩,[],by decide,trivial⟩))
     ·have h23:=oF hb23;refine zm V V (hb23) V V (ze V) (zm V V (hb23) V V (ZK V V) (za V (zy V (hb23) V) (za V (ze V) (zZ 27 V (fun hb27=> ?_) (fun hb27=> ?_)))))
      ·have h27:=oT hb27;refine zm V V (hb27) V V (ze V) (zm V V (hb27) V V (yG V V) (zm V V (hb27) V V (ze V) (zZ 30 V (fun hb30=> ?_) (fun hb30=> ?_))))
       ·have h30:=oT hb30;refine zo V V (hb30) V V (zo V V (hb30) V V (zm V V (hb27) V V (zD V (hb30) V) (za V (zD V (hb27) V) (za V (ze V) (zm V V (V) V V (ze V) (zm V V (V) V V (zX V V) (za V (zD V (V) V) (zf (zc (zI V (fun hb38=> ?_) (fun hb38=> ?_)))))))))))
        ·have hbad:¬Acc.chr c:=by (have h38:=hb38;simp only [Bool.not_eq_true',decide_eq_false_iff_not] at h38);unfold Acc.chr;omega
         refine zh (zb (za V (zg V) (zf (zc (zR (fn:=Tryz.f159) (fun _ _ h=>h) (Rs.le (Rs.one V (zp V)) ?_))))))
         first | exact Le.trans (zS (fun h=>by have:=h.2.1;omega)) zv | exact Le.trans (zS (fun h=>by have:=h.2.2;omega)) zv | exact Le.trans (zS (fun h=>hbad (h.1 c (List.mem_of_getElem? hc)))) zv | exact Le.trans (le_decT ⟨fun d hd=>hi.2 d (by rw [List.take_of_length_le o9];exact hd),by omega,by omega⟩) zv
        ·skip
         refine zu (yf (zc (zb (za V (yM V V ⟨by omega,by omega⟩) (za rfl (ze rfl) (zf ?_))))))
         have hgood:Acc.chr c:=by first | (unfold Acc.chr;omega) | ((have h38:=hb38;simp only [Bool.not_eq_false',decide_eq_true_eq] at h38);unfold Acc.chr;omega)
         exact fun a w hh=>hK0 (⟨i + 1,by omega,fun d hd=>by rw [yq hc] at hd;rcases List.mem_append.1 hd with hd | hd;exact hi.2 d hd;rw [List.mem_singleton.1 hd];exact hgood⟩) (by dsimp only;omega) a w (hh.sub (⟨⟨_,rfl,⟨lq rfl,⟨lq rfl,⟨⟨_,rfl,zE s9⟩,trivial⟩⟩⟩⟩,[],by decide,trivial⟩))
       ·have h30:=oF hb30;refine zm V V (hb30) V V (ze V) (zm V V (hb30) V V (ZK V V) (zm V V (hb27) V V (zy V (hb30) V) (za V (zD V (hb27) V) (za V (ze V) (zZ 35 V (fun hb35=> ?_) (fun hb35=> ?_))))))
        ·have h35:=oT hb35;refine zm V V (hb35) V V (ze V) (zm V V (hb35) V V (zX V V) (za V (zD V (hb35) V) (zf (zc (zI V (fun hb38=> ?_) (fun hb38=> ?_))))))
         ·have hbad:¬Acc.chr c:=by (have h38:=hb38;simp only [Bool.not_eq_true',decide_eq_false_iff_not] at h38);unfold Acc.chr;omega
          refine zh (zb (za V (zg V) (zf (zc (zR (fn:=Tryz.f159) (fun _ _ h=>h) (Rs.le (Rs.one V (zp V)) ?_))))))
          first | exact Le.trans (zS (fun h=>by have:=h.2.1;omega)) zv | exact Le.trans (zS (fun h=>by have:=h.2.2;omega)) zv | exact Le.trans (zS (fun h=>hbad (h.1 c (List.mem_of_getElem? hc)))) zv | exact Le.trans (le_decT ⟨fun d hd=>hi.2 d (by rw [List.take_of_length_le o9];exact hd),by omega,by omega⟩) zv
         ·skip
          refine zu (yf (zc (zb (za V (yM V V ⟨by omega,by omega⟩) (za rfl (ze rfl) (zf ?_))))))
          have hgood:Acc.chr c:=by first | (unfold Acc.chr;omega) | ((have h38:=hb38;simp only [Bool.not_eq_false',decide_eq_true_eq] at h38);unfold Acc.chr;omega)
          exact fun a w hh=>hK0 (⟨i + 1,by omega,fun d hd=>by rw [yq hc] at hd;rcases List.mem_append.1 hd with hd | hd;exact hi.2 d hd;rw [List.mem_singleton.1 hd];exact hgood⟩) (by dsimp only;omega) a w (hh.sub (⟨⟨_,rfl,⟨lq rfl,⟨lq rfl,⟨⟨_,rfl,zE s9⟩,trivial⟩⟩⟩⟩,[],by decide,trivial⟩))
        ·have h35:=oF hb35;refine zo V V (hb35) V V (zo V V (hb35) V V (za V (zy V (hb35) V) (zf (zc (zB V (V) (zu (yf (zc (zb (za V (yM V V ⟨by omega,by omega⟩) (za rfl (ze rfl) (zf ?_))))))))))))
         have hgood:Acc.chr c:=by first | (unfold Acc.chr;omega) | ((have h38:=hb38;simp only [Bool.not_eq_false',decide_eq_true_eq] at h38);unfold Acc.chr;omega)
         exact fun a w hh=>hK0 (⟨i + 1,by omega,fun d hd=>by rw [yq hc] at hd;rcases List.mem_append.1 hd with hd | hd;exact hi.2 d hd;rw [List.mem_singleton.1 hd];exact hgood⟩) (by dsimp only;omega) a w (hh.sub (⟨⟨_,rfl,⟨lq rfl,⟨lq rfl,⟨⟨_,rfl,zE s9⟩,trivial⟩⟩⟩⟩,[],by decide,trivial⟩))
      ·have h27:=oF hb27;refine zo V V (hb27) V V (zo V V (hb27) V V (zo V V (hb27) V V (Yd V V V V (Yd V V V V (zo V V (hb27) V V (za V (zy V (hb27) V) (za V (ze V) (zo V V (V) V V (zo V V (V) V V (za V (zy V (V) V) (zf (zc (zB V (V) (zu (yf (zc (zb (za V (yM V V ⟨by omega,by omega⟩) (za rfl (ze rfl) (zf ?_))))))))))))))))))))
       have hgood:Acc.chr c:=by first | (unfold Acc.chr;omega) | ((have h38:=hb38;simp only [Bool.not_eq_false',decide_eq_true_eq] at h38);unfold Acc.chr;omega)
       exact fun a w hh=>hK0 (⟨i + 1,by omega,fun d hd=>by rw [yq hc] at hd;rcases List.mem_append.1 hd with hd | hd;exact hi.2 d hd;rw [List.mem_singleton.1 hd];exact hgood⟩) (by dsimp only;omega) a w (hh.sub (⟨⟨_,rfl,⟨lq rfl,⟨lq rfl,⟨⟨_,rfl,zE s9⟩,trivial⟩⟩⟩⟩,[],by decide,trivial⟩))
    ·have h16:=oF hb16;refine yW ?_
     repeat (first | refine Za ?_ | refine Zb d9 ?_)
     refine Zi (zc (zh (zb (za V (zg V) (zf (zc (zR (fn:=Tryz.f159) (fun _ _ h=>h) (Rs.le (Rs.one V (zp V)) ?_))))))))
     first | exact Le.trans (zS (fun h=>by have:=h.2.1;omega)) zv | exact Le.trans (zS (fun h=>by have:=h.2.2;omega)) zv | exact Le.trans (zS (fun h=>hbad (h.1 c (List.mem_of_getElem? hc)))) zv | exact Le.trans (le_decT ⟨fun d hd=>hi.2 d (by rw [List.take_of_length_le o9];exact hd),by omega,by omega⟩) zv
theorem con_validA (nm : LB) (role : Int) (kl : Nat) (dep num : Int) : ConN Tryz.prog 108 [Zn [yp nm, iD role, lenD kl, iD dep, iD num]] (yc (decide (Acc.okN nm role kl dep num))) := by
  refine yJ Tryz.func108 k9 rfl k9 fun base w0 => (zh (zb (zl (S := []) (yV rfl rfl) ?_)))
  rintro _ ⟨g1, rfl⟩
  refine za rfl (zg rfl) (zf (zc (zh (zh (zb (za rfl (zi (n := 0) rfl k9) (za rfl (zj 0 rfl rfl rfl k9 zn) (zl (S := []) (zz [] (con_named nm) rfl ⟨(zq (zd _)), trivial⟩ rfl) ?_))))))))
  rintro _ rfl
  refine za rfl (yL rfl) (za rfl (ze rfl) (zZ 7 rfl (fun hb7 => ?_) (fun hb7 => ?_)))
  · have h7 : ¬ Acc.isName nm := by simpa using hb7
    refine zo rfl rfl (hb7) rfl rfl (zo rfl rfl (hb7) rfl rfl (zo rfl rfl (hb7) rfl rfl (zo rfl rfl (hb7) rfl rfl (za rfl (zD rfl (hb7) rfl) (za rfl (ze rfl) (zo rfl rfl (rfl) rfl rfl (zo rfl rfl (rfl) rfl rfl (zo rfl rfl (rfl) rfl rfl (za rfl (zD rfl (rfl) rfl) (za rfl (ze rfl) (zo rfl rfl (rfl) rfl rfl (zo rfl rfl (rfl) rfl rfl (zo rfl rfl (rfl) rfl rfl (za rfl (zD rfl (rfl) rfl) (za rfl (ze rfl) (zo rfl rfl (rfl) rfl rfl (zo rfl rfl (rfl) rfl rfl (zo rfl rfl (rfl) rfl rfl (za rfl (zD rfl (rfl) rfl) (zf (zc (yd rfl (rfl) (zh (zb (za rfl (zg rfl) (zf (zc (zR (fn := Tryz.f108) (fun _ _ h => h) (Rs.le (Rs.one rfl (zp rfl)) ?_)))))))))))))))))))))))))))))
    first | exact Le.trans (zS (fun h => h7 h.1)) zv | exact Le.trans (zS (fun h => h13 h.2.1)) zv | exact Le.trans (zS (fun h => by have h1 := h.2.2.1; have h2 := h.2.2.2.1; have h3 := h.2.2.2.2.1; omega)) zv | exact Le.trans (ZO (by rw [Acc.okN_iff h7 h13 o9 o9 o9]; simp only [Acc.nums, *]; first | rfl | (simp; done) | (simp; omega) | omega)) zv | exact Le.trans (zS (fun h => by have h1 := h.2.2.2.2.2; have h2 := h.2.2.2.2.1; simp [Acc.nums, h30, h35, h40] at h1; omega)) zv
  · have h7 : Acc.isName nm := by simpa using hb7
    refine zm rfl rfl (hb7) rfl rfl (zi (n := 2) rfl k9) (zm rfl rfl (hb7) rfl rfl (zj 0 rfl rfl rfl k9 zn) (zm rfl rfl (hb7) rfl rfl (Rd.lenN (e := 5) rfl k9) (zm rfl rfl (hb7) rfl rfl (zX rfl rfl) (za rfl (zy rfl (hb7) rfl) (za rfl (ze rfl) (zZ 13 rfl (fun hb13 => ?_) (fun hb13 => ?_)))))))
    · have h13 : ¬ kl = 32 := by have h := (show (!decide ((kl : Int) = 32)) = true from hb13); simp at h; omega
      refine zo rfl rfl (hb13) rfl rfl (zo rfl rfl (hb13) rfl rfl (zo rfl rfl (hb13) rfl rfl (za rfl (zD rfl (hb13) rfl) (za rfl (ze rfl) (zo rfl rfl (rfl) rfl rfl (zo rfl rfl (rfl) rfl rfl (zo rfl rfl (rfl) rfl rfl (za rfl (zD rfl (rfl) rfl) (za rfl (ze rfl) (zo rfl rfl (rfl) rfl rfl (zo rfl rfl (rfl) rfl rfl (zo rfl rfl (rfl) rfl rfl (za rfl (zD rfl (rfl) rfl) (zf (zc (yd rfl (rfl) (zh (zb (za rfl (zg rfl) (zf (zc (zR (fn := Tryz.f108) (fun _ _ h => h) (Rs.le (Rs.one rfl (zp rfl)) ?_)))))))))))))))))))))))
      first | exact Le.trans (zS (fun h => h7 h.1)) zv | exact Le.trans (zS (fun h => h13 h.2.1)) zv | exact Le.trans (zS (fun h => by have h1 := h.2.2.1; have h2 := h.2.2.2.1; have h3 := h.2.2.2.2.1; omega)) zv | exact Le.trans (ZO (by rw [Acc.okN_iff h7 h13 o9 o9 o9]; simp only [Acc.nums, *]; first | rfl | (simp; done) | (simp; omega) | omega)) zv | exact Le.trans (zS (fun h => by have h1 := h.2.2.2.2.2; have h2 := h.2.2.2.2.1; simp [Acc.nums, h30, h35, h40] at h1; omega)) zv
    · have h13 : kl = 32 := by have h := (show (!decide ((kl : Int) = 32)) = false from hb13); simp at h; omega
      refine zm rfl rfl (hb13) rfl rfl (zi (n := 3) rfl k9) (zm rfl rfl (hb13) rfl rfl (zj 0 rfl rfl rfl k9 zn) (zm rfl rfl (hb13) rfl rfl (yG rfl rfl) (za rfl (zy rfl (hb13) rfl) (za rfl (ze rfl) (zZ 18 rfl (fun hb18 => ?_) (fun hb18 => ?_))))))
      · have h18 := oT hb18
        refine zo rfl rfl (hb18) rfl rfl (zo rfl rfl (hb18) rfl rfl (zo rfl rfl (hb18) rfl rfl (za rfl (zD rfl (hb18) rfl) (za rfl (ze rfl) (zo rfl rfl (rfl) rfl rfl (zo rfl rfl (rfl) rfl rfl (zo rfl rfl (rfl) rfl rfl (za rfl (zD rfl (rfl) rfl) (zf (zc (yd rfl (rfl) (zh (zb (za rfl (zg rfl) (zf (zc (zR (fn := Tryz.f108) (fun _ _ h => h) (Rs.le (Rs.one rfl (zp rfl)) ?_))))))))))))))))))
        first | exact Le.trans (zS (fun h => h7 h.1)) zv | exact Le.trans (zS (fun h => h13 h.2.1)) zv | exact Le.trans (zS (fun h => by have h1 := h.2.2.1; have h2 := h.2.2.2.1; have h3 := h.2.2.2.2.1; omega)) zv | exact Le.trans (ZO (by rw [Acc.okN_iff h7 h13 o9 o9 o9]; simp only [Acc.nums, *]; first | rfl | (simp; done) | (simp; omega) | omega)) zv | exact Le.trans (zS (fun h => by have h1 := h.2.2.2.2.2; have h2 := h.2.2.2.2.1; simp [Acc.nums, h30, h35, h40] at h1; omega)) zv
      · have h18 := oF hb18
        refine zm rfl rfl (hb18) rfl rfl (zi (n := 3) rfl k9) (zm rfl rfl (hb18) rfl rfl (zj 0 rfl rfl rfl k9 zn) (zm rfl rfl (hb18) rfl rfl (ZK rfl rfl) (za rfl (zy rfl (hb18) rfl) (za rfl (ze rfl) (zZ 23 rfl (fun hb23 => ?_) (fun hb23 => ?_))))))
        · have h23 := oT hb23
          refine zo rfl rfl (hb23) rfl rfl (zo rfl rfl (hb23) rfl rfl (zo rfl rfl (hb23) rfl rfl (za rfl (zD rfl (hb23) rfl) (zf (zc (yd rfl (rfl) (zh (zb (za rfl (zg rfl) (zf (zc (zR (fn := Tryz.f108) (fun _ _ h => h) (Rs.le (Rs.one rfl (zp rfl)) ?_)))))))))))))
          first | exact Le.trans (zS (fun h => h7 h.1)) zv | exact Le.trans (zS (fun h => h13 h.2.1)) zv | exact Le.trans (zS (fun h => by have h1 := h.2.2.1; have h2 := h.2.2.2.1; have h3 := h.2.2.2.2.1; omega)) zv | exact Le.trans (ZO (by rw [Acc.okN_iff h7 h13 o9 o9 o9]; simp only [Acc.nums, *]; first | rfl | (simp; done) | (simp; omega) | omega)) zv | exact Le.trans (zS (fun h => by have h1 := h.2.2.2.2.2; have h2 := h.2.2.2.2.1; simp [Acc.nums, h30, h35, h40] at h1; omega)) zv
        · have h23 := oF hb23
          refine zm rfl rfl (hb23) rfl rfl (zi (n := 4) rfl k9) (zm rfl rfl (hb23) rfl rfl (zj 0 rfl rfl rfl k9 zn) (zm rfl rfl (hb23) rfl rfl (yG rfl rfl) (za rfl (zy rfl (hb23) rfl) (zf (zc (zI rfl (fun hb27 => ?_) (fun hb27 => ?_)))))))
          · have h27 := oT hb27
            refine zh (zb (za rfl (zg rfl) (zf (zc (zR (fn := Tryz.f108) (fun _ _ h => h) (Rs.le (Rs.one rfl (zp rfl)) ?_))))))
            first | exact Le.trans (zS (fun h => h7 h.1)) zv | exact Le.trans (zS (fun h => h13 h.2.1)) zv | exact Le.trans (zS (fun h => by have h1 := h.2.2.1; have h2 := h.2.2.2.1; have h3 := h.2.2.2.2.1; omega)) zv | exact Le.trans (ZO (by rw [Acc.okN_iff h7 h13 o9 o9 o9]; simp only [Acc.nums, *]; first | rfl | (simp; done) | (simp; omega) | omega)) zv | exact Le.trans (zS (fun h => by have h1 := h.2.2.2.2.2; have h2 := h.2.2.2.2.1; simp [Acc.nums, h30, h35, h40] at h1; omega)) zv
          · have h27 := oF hb27
            refine zu (zc (zh (zh (zb (za rfl (zi (n := 1) rfl k9) (za rfl (zj 0 rfl rfl rfl k9 zn) (zf (zc (zV (zh (zb (za rfl (yY rfl rfl) (za rfl (zg rfl) (zf (zc (zI rfl (fun hb30 => ?_) (fun hb30 => ?_)))))))))))))))))
            · have h30 := oT hb30
              refine zh (zb (za rfl (zi (n := 4) rfl k9) (za rfl (zj 0 rfl rfl rfl k9 zn) (za rfl (yG rfl rfl) (za rfl (zg rfl) (zf (zc (zR (fn := Tryz.f108) (fun _ _ h => h) (Rs.le (Rs.one rfl (zp rfl)) ?_)))))))))
              first | exact Le.trans (zS (fun h => h7 h.1)) zv | exact Le.trans (zS (fun h => h13 h.2.1)) zv | exact Le.trans (zS (fun h => by have h1 := h.2.2.1; have h2 := h.2.2.2.1; have h3 := h.2.2.2.2.1; omega)) zv | exact Le.trans (ZO (by rw [Acc.okN_iff h7 h13 o9 o9 o9]; simp only [Acc.nums, *]; first | rfl | (simp; done) | (simp; omega) | omega)) zv | exact Le.trans (zS (fun h => by have h1 := h.2.2.2.2.2; have h2 := h.2.2.2.2.1; simp [Acc.nums, h30, h35, h40] at h1; omega)) zv
            · have h30 := oF hb30
              refine zh (zb (za rfl (yY rfl rfl) (za rfl (zg rfl) (zf (zc (zI rfl (fun hb35 => ?_) (fun hb35 => ?_)))))))
              · have h35 := oT hb35
                refine zh (zb (za rfl (zi (n := 4) rfl k9) (za rfl (zj 0 rfl rfl rfl k9 zn) (za rfl (yG rfl rfl) (za rfl (zg rfl) (zf (zc (zR (fn := Tryz.f108) (fun _ _ h => h) (Rs.le (Rs.one rfl (zp rfl)) ?_)))))))))
                first | exact Le.trans (zS (fun h => h7 h.1)) zv | exact Le.trans (zS (fun h => h13 h.2.1)) zv | exact Le.trans (zS (fun h => by have h1 := h.2.2.1; have h2 := h.2.2.2.1; have h3 := h.2.2.2.2.1; omega)) zv | exact Le.trans (ZO (by rw [Acc.okN_iff h7 h13 o9 o9 o9]; simp only [Acc.nums, *]; first | rfl | (simp; done) | (simp; omega) | omega)) zv | exact Le.trans (zS (fun h => by have h1 := h.2.2.2.2.2; have h2 := h.2.2.2.2.1; simp [Acc.nums, h30, h35, h40] at h1; omega)) zv
              · have h35 := oF hb35
                refine zh (zb (za rfl (yY rfl rfl) (za rfl (zg rfl) (zf (zc (zI rfl (fun hb40 => ?_) (fun hb40 => ?_)))))))
                · have h40 := oT hb40
                  refine zh (zb (za rfl (zi (n := 4) rfl k9) (za rfl (zj 0 rfl rfl rfl k9 zn) (za rfl (yY rfl rfl) (za rfl (zg rfl) (zf (zc (zR (fn := Tryz.f108) (fun _ _ h => h) (Rs.le (Rs.one rfl (zp rfl)) ?_)))))))))
                  first | exact Le.trans (zS (fun h => h7 h.1)) zv | exact Le.trans (zS (fun h => h13 h.2.1)) zv | exact Le.trans (zS (fun h => by have h1 := h.2.2.1; have h2 := h.2.2.2.1; have h3 := h.2.2.2.2.1; omega)) zv | exact Le.trans (ZO (by rw [Acc.okN_iff h7 h13 o9 o9 o9]; simp only [Acc.nums, *]; first | rfl | (simp; done) | (simp; omega) | omega)) zv | exact Le.trans (zS (fun h => by have h1 := h.2.2.2.2.2; have h2 := h.2.2.2.2.1; simp [Acc.nums, h30, h35, h40] at h1; omega)) zv
                · have h40 := oF hb40
                  refine zu (yf (zc (zh (zb (za rfl (zg rfl) (zf (zc (zR (fn := Tryz.f108) (fun _ _ h => h) (Rs.le (Rs.one rfl (zp rfl)) ?_)))))))))
                  first | exact Le.trans (zS (fun h => h7 h.1)) zv | exact Le.trans (zS (fun h => h13 h.2.1)) zv | exact Le.trans (zS (fun h => by have h1 := h.2.2.1; have h2 := h.2.2.2.1; have h3 := h.2.2.2.2.1; omega)) zv | exact Le.trans (ZO (by rw [Acc.okN_iff h7 h13 o9 o9 o9]; simp only [Acc.nums, *]; first | rfl | (simp; done) | (simp; omega) | omega)) zv | exact Le.trans (zS (fun h => by have h1 := h.2.2.2.2.2; have h2 := h.2.2.2.2.1; simp [Acc.nums, h30, h35, h40] at h1; omega)) zv
theorem con_copied (nm:LB) (role:Int) (b:LB) (dep num:Int) (hb:b.length≤1000000):ConN Tryz.prog 160 [Zn [yp nm,iD role,bD b,iD dep,iD num]] (Zn [yp nm,iD role,bD b,iD dep,iD num]):=by
 refine yJ Tryz.func160 k9 V k9 fun base w0=>(zh (zb (zl (S:=[]) (yV V V) ?_)));rintro _ ⟨g1,rfl⟩;refine zl (S:=[]) (zH (zs:=[.string ⟨#[]⟩,.int .i64 0,.slice none 0 0,.int .i64 0,.int .i64 0]) k9 V) ?_;rintro _ ⟨g2,rfl⟩
 refine zf (zc (zh (zb (za V (zi (n:=2) V k9) (za V (zj 0 V V V k9 zn) (zl (S:=[]) (Ef.callNN [] (con_cloneB _ (by first | assumption | (simp <;> omega))) V ⟨(zq (zd _)),t9⟩ V) ?_))))))
 rintro _ rfl;refine za V (zi (n:=2) V k9) (zl (S:=[_]) (zN 0 V V V k9 V (m9 V)) ?_);rintro _ rfl;refine zf (zc (zh (zQ (σ':=zK [(1,pA g1),(2,pA g2)] [.c g1 [yp nm,iD role,nwD w0.heap.size (bD b),iD dep,iD num],.c g2 [yp [],iD 0,isD (.slice none 0 0),iD 0,iD 0]]) (sB [0,1] V V) (zb (za V (zG 0 5 V V k9 V zn) (zl (S:=[_]) (zC 1 V V V k9 V (m9 V)) ?_))))));rintro _ rfl;refine zf (zc (zR (fn:=Tryz.f160) (fun _ _ h=>h) (Rs.le (Rs.one V (yv 1 V V k9)) ?_)));exact (le_nw_agg ⟨zv,zv,(zd _),zv,zv,t9⟩)
structure Bst where
 M:Option (Nat × Nat)
 F1:LN
 F2:LN
 n:Ust
abbrev Acc.nm (l:List Acc.T):List LB:=l.map Acc.T.name
def bookC (g:Nat) (s:Bst) (l:List Acc.T):Box:= .c g [isD (.map (s.M.map Prod.fst)),isD (.slice s.n.A (Acc.nm l).length s.n.c),isD (.map (s.M.map Prod.snd))]
def bookN (s:Bst) (l:List Acc.T):Box:= .r s.n.F (yj 9 1 Zj s.n.A s.n.c (Acc.nm l))
def bookA (s:Bst) (l:List Acc.T):Box:= .r s.F1 (ya (s.M.map Prod.fst) yA (Acc.nm l) (acD l))
def bookS (s:Bst) (l:List Acc.T):Box:= .r s.F2 (ya (s.M.map Prod.snd) yu (Acc.seats l) (seD l))
abbrev bookD (l:List Acc.T):D:=paD [mqD yA (Acc.nm l) (acD l),lsD Zj (Acc.nm l),mqD yu (Acc.seats l) (seD l)]
theorem SW.mapQNil {P:Program} {Γ:Cx} {σ:St} {Q:Exit→Act→World→Prop} {c:Code} {κ:Type} {enc:κ→Value} {K:List κ} {f:κ→D} {F:LN} (j:Nat) (hj:σ.bx[j]? =some (.r F (ya none enc K f))) (h:K=[]→SW P Γ σ c Q):SW P Γ σ c Q:=fun a w hh=>by
 obtain ⟨ks,_,hK,es,hm,hks,_⟩:=hh.resAt hj;rcases hm with ⟨_,rfl,_⟩ | ⟨g,ck,h0,_⟩
 ·have h1:ks=[]:=by simpa using hks.symm
  subst h1;exact h (List.eq_nil_iff_forall_not_mem.2 fun k hk=>by have:=(hK k).2 hk;simp at this) a w hh
 ·cases h0
theorem acD_eq {l l':List Acc.T} {k:LB} (h:Acc.find l' k=Acc.find l k):Le (acD l k) (acD l' k):=by unfold acD;rw [h];exact zd _
theorem seD_eq {l l':List Acc.T} {p:Int × Int} (h:Acc.seat l' p=Acc.seat l p):Le (seD l p) (seD l' p):=by unfold seD;rw [h];exact zd _
theorem acD_mem {l:List Acc.T} {a:Acc.T} (h:Acc.find l a.name=some a):acD l a.name=Zn (encA a):=by unfold acD;rw [h];rfl
theorem seD_mem {l:List Acc.T} {a:Acc.T} (h:Acc.seat l (a.role,a.num)=some a):seD l (a.role,a.num)=yp a.name:=by unfold seD;rw [h];rfl
structure Acc.Free (l:List Acc.T) (a:Acc.T):Prop where
 fine:Acc.Fine l
 fine':Acc.Fine (Acc.ins l a)
 nm:a.name∉Acc.nm l
 st:a.role≠3→(a.role,a.num)∉Acc.seats l
theorem le_seat (r n:Int):Le (Zn [iD r,iD n]) (isD (yu (r,n))):=le_agg_is (vs:=[.int .i64 r,.int .i64 n])
theorem con_put0 (gb:Nat) (n:Ust) (F1 F2:LN) (l:List Acc.T) (a:Acc.T) (A:Option Addr) (c:Nat) (F:LN) (R:Res) (hR:YB R (.slice A a.key.length c) (cellsOf a.key)) (hb:a.key.length≤1000000) (hl:l.length≤100000) (hf:Acc.Free l a):ConR Tryz.prog 110 [.c gb [isD (.map none),isD (.slice n.A (Acc.nm l).length n.c),isD (.map none)],.r n.F (yj 9 1 Zj n.A n.c (Acc.nm l)),.r F1 (ya none yA (Acc.nm l) (acD l)),.r F2 (ya none yu (Acc.seats l) (seD l)),.r F R] [pA gb,Zn [yp a.name,iD a.role,isD (.slice A a.key.length c),iD a.dep,iD a.num]] (fun t:Nat × Nat × Ust × LN × LN=>[.c gb [isD (.map (some t.1)),isD (.slice t.2.2.1.A (Acc.nm (Acc.ins l a)).length t.2.2.1.c),isD (.map (some t.2.1))],.r t.2.2.1.F (yj 9 1 Zj t.2.2.1.A t.2.2.1.c (Acc.nm (Acc.ins l a))),.r t.2.2.2.1 (ya (some t.1) yA (Acc.nm (Acc.ins l a)) (acD (Acc.ins l a))),.r t.2.2.2.2 (ya (some t.2.1) yu (Acc.seats (Acc.ins l a)) (seD (Acc.ins l a))),.r F R]) (fun t:Nat × Nat × Ust × LN × LN=>isD (.tuple #[])):=by
 have hin:Acc.nm (Acc.ins l a)=(Acc.nm l).take (Acc.pos l a.name) ++ a.name :: (Acc.nm l).drop (Acc.pos l a.name):=Acc.names_ins l a;have hpl:=Acc.pos_le l a.name
 have hil:(Acc.nm (Acc.ins l a)).length=(Acc.nm l).length + 1:=by simp [Acc.ins_len]
 refine zW Tryz.func110 k9 V k9 fun base w0=>(zh (SW.mapQNil 2 V fun h0=> ?_))
 have hl0:l=[]:=by simpa using h0
 have hs0:Acc.seats l=[]:=by rw [hl0];rfl
 refine zb (zl (S:=[]) (yV V V) ?_);rintro _ ⟨g3,rfl⟩;refine zf (zc (zh (zh (zb (za V (ze V) (za V (zt V) (za V (zi (n:=0) V k9) (za V (zj 0 V V V k9 zn) (za V (Rd.eqM (kt:=9) (et:=121) V V k9) (zf (zc (yd V (V) (zb (za V (ze V) (za V (ze V) (zl (S:=[]) (Ef.makeMapQ (enc:=yA) (acD (Acc.ins l a)) V) ?_))))))))))))))));rintro _ ⟨g13,rfl⟩;refine zl (S:=[]) (Ef.makeMapQ (enc:=yu) (seD (Acc.ins l a)) V) ?_;rintro _ ⟨g14,rfl⟩;refine za V (zt V) (za V (zi (n:=0) V k9) (zl (S:=[_]) (zN 0 V V V k9 V (m9 V)) ?_));rintro _ rfl;refine za V (zt V) (za V (zi (n:=2) V k9) (zl (S:=[_]) (zN 0 V V V k9 V (m9 V)) ?_));rintro _ rfl
 refine zf (zc (zh (zQ (σ':=zK [(0,pA gb),(3,pA g3)] [.c gb [isD (.map (some g13)),isD (.slice n.A (Acc.nm l).length n.c),isD (.map (some g14))],.r n.F (yj 9 1 Zj n.A n.c (Acc.nm l)),.r [g13] (ya (some g13) yA [] (acD (Acc.ins l a))),.r [g14] (ya (some g14) yu [] (seD (Acc.ins l a))),.c g3 [yp a.name,iD a.role,isD (.slice A a.key.length c),iD a.dep,iD a.num],.r F R]) (sB [0,1,6,7,5,4] V V) (yh ([g13] ++ []) (.r 0 (.r 1 (.r 2 (.r 3 (.r 4 (.r 5 (.r 6 (.n 7 (.e 8 .fin .no) .no)))))))) k9 k9 (fun d _ _ _ _ h=>by cases d <;> exact h) (zk rfl rfl (ze rfl) (zk rfl rfl (zt rfl) (zk rfl rfl (zi (n:=0) rfl k9) (zk rfl rfl (zj 0 rfl rfl rfl k9 (zO 2 rfl d9 zn)) (zk rfl rfl (zi (n:=0) rfl k9) (zk rfl rfl (zj 4 rfl rfl rfl k9 (zO 2 rfl d9 zn)) (zk rfl rfl (zG 4 5 rfl rfl k9 rfl (zO 2 rfl d9 zn)) (zY rfl (zz [5] (con_copied a.name a.role a.key a.dep a.num hb) rfl ⟨(sees_agg ⟨(zq (zd _)),(zq (zd _)),(sees_view 5 rfl hR d9),(zq (zd _)),(zq (zd _)),trivial⟩),trivial⟩ rfl) ?_ zA))))))))))))
 rintro _ rfl;refine zL V (Ef.mapNewQ (kt:=9) (et:=121) 2 V V V (zd _) V (by rw [acD_mem (Acc.find_ins hf.fine'.srt)];exact zd _) k9 (keyNm _) s9 (fun _ h=>mL _ h)) ?_ zA;rintro _ rfl
 refine zP (zc (zh (zQ (σ':=zK [(0,pA gb),(3,pA g3)] [.c gb [isD (.map (some g13)),isD (.slice n.A (Acc.nm l).length n.c),isD (.map (some g14))],.r n.F (yj 9 1 Zj n.A n.c (Acc.nm l)),.r [g13] (ya (some g13) yA (a.name :: []) (acD (Acc.ins l a))),.r [g14] (ya (some g14) yu [] (seD (Acc.ins l a))),.c g3 [yp a.name,iD a.role,isD (.slice A a.key.length c),iD a.dep,iD a.num],.r F R]) (sB [0,1,5,2,3,4] V V) (yh [] (.r 0 (.r 1 (.r 2 (.r 3 (.r 4 (.r 5 (.n 6 (.r 7 (.r 8 (.r 9 (.r 10 (.r 11 .fin))))) .no))))))) k9 k9 (fun d _ _ _ _ h=>by cases d <;> exact h) (zk rfl rfl (ze rfl) (zk rfl rfl (zt rfl) (zk rfl rfl (zi (n:=1) rfl k9) (zk rfl rfl (zj 0 rfl rfl rfl k9 zn) (zk rfl rfl (zi (n:=0) rfl k9) (zk rfl rfl (zj 4 rfl rfl rfl k9 zn) (zY rfl (zz [1] ((con_search lays26 l a.name hf.fine.srt o9)) rfl ⟨(Zl 1 rfl d9),(zq (zd _)),trivial⟩ rfl) ?_ zA)))))))))))
 rintro _ rfl
 refine zk V V (ze V) (zk V V (zr V V) (zk V V (zr V V) (zk V V (zg V) (zk V V (zg V) (zP (zc (zh (zQ (σ':=zK [(0,pA gb),(3,pA g3),(4,iD (Acc.pos l a.name:Int))] [.c gb [isD (.map (some g13)),isD (.slice n.A (Acc.nm l).length n.c),isD (.map (some g14))],.r n.F (yj 9 1 Zj n.A n.c (Acc.nm l)),.r [g13] (ya (some g13) yA (a.name :: []) (acD (Acc.ins l a))),.r [g14] (ya (some g14) yu [] (seD (Acc.ins l a))),.c g3 [yp a.name,iD a.role,isD (.slice A a.key.length c),iD a.dep,iD a.num],.r F R]) (sB [0,1,2,3,4,5] V V) (yh (n.F ++ (gb :: [])) (.r 0 (.r 1 (.r 2 (.r 3 (.q 4 (.r 5 (.r 6 (.r 7 (.n 8 (.e 9 (.r 10 (.r 11 (.e 12 .fin .no))) .no) .no))))))))) k9 k9 (fun d _ _ _ _ h=>by cases d <;> exact h) (zk rfl rfl (ze rfl) (zk rfl rfl (ze rfl) (zk rfl rfl (zt rfl) (zk rfl rfl (zi (n:=1) rfl k9) (SWz.rq rfl rfl (zj 0 rfl rfl rfl k9 zn) (zk rfl rfl (ze rfl) (zk rfl rfl (zi (n:=0) rfl k9) (zk rfl rfl (zj 4 rfl rfl rfl k9 (zO 1 rfl d9 (yB 0 rfl d9 zn))) (zY rfl (Ef.litB (e:=9) [yA a.name] rfl rfl (fun L w vs hv=>by obtain ⟨u,rfl,rfl⟩:=all1 hv;intro w';kernel_rfl) rfl) ?_ zA))))))))))))))))))
 rintro _ rfl;refine zL V (zx [1] ((con_insert lays22 (Acc.nm l) n a.name (Acc.pos l a.name) (by simpa using hpl) (by simpa using (by omega:l.length≤1000000)))) V ⟨zd _,zd _,zd _,t9⟩ d9 ⟨lR V,t9⟩ (fin_r (fun _ h=>mL _ h) yQ) V) ?_ zA;rintro _ ⟨t46,rfl⟩;refine zk V V (zt V) (zk V V (zi (n:=1) V k9) (zL V (zN 0 V V V k9 V (mR _ mC)) ?_ zA));rintro _ rfl;refine zP (zc (zh (zQ (σ':=zK [(0,pA gb),(3,pA g3)] [.c gb [isD (.map (some g13)),isD (.slice t46.A (Acc.nm (Acc.ins l a)).length t46.c),isD (.map (some g14))],.r t46.F (yj 9 1 Zj t46.A t46.c (Acc.nm (Acc.ins l a))),.r [g13] (ya (some g13) yA (a.name :: []) (acD (Acc.ins l a))),.r [g14] (ya (some g14) yu [] (seD (Acc.ins l a))),.c g3 [yp a.name,iD a.role,isD (.slice A a.key.length c),iD a.dep,iD a.num],.r F R]) (⟨⟨_,V,(sT V)⟩,[0,5,1,2,3,4],by decide,⟨⟨_,rfl,⟨zd _,zE (by rw [hil]),zd _,trivial⟩⟩,⟨⟨_,rfl,Z9 (by rw [hin]) (by rw [hin])⟩,(sX rfl)⟩⟩⟩) (zb (za rfl (zi (n:=1) rfl k9) (za rfl (zj 4 rfl rfl rfl k9 zn) (za rfl (zX rfl rfl) (zf (zc (zI rfl (fun hb51=> ?_) (fun hb51=> ?_)))))))))))
 ·have h51:a.role≠3:=by simpa using hb51
  refine yh ([g14] ++ []) (.r 0 (.r 1 (.r 2 (.r 3 (.r 4 (.r 5 (.r 6 (.r 7 (.r 8 (.r 9 (.r 10 (.e 11 .fin .no)))))))))))) k9 k9 (fun d _ _ _ _ h=>by cases d <;> exact h) (zk rfl rfl (ze rfl) (zk rfl rfl (zt rfl) (zk rfl rfl (zi (n:=2) rfl k9) (zk rfl rfl (zj 0 rfl rfl rfl k9 (zO 3 rfl d9 zn)) (zk rfl rfl (zi (n:=1) rfl k9) (zk rfl rfl (zj 4 rfl rfl rfl k9 (zO 3 rfl d9 zn)) (zk rfl rfl (zi (n:=4) rfl k9) (zk rfl rfl (zj 4 rfl rfl rfl k9 (zO 3 rfl d9 zn)) (zk rfl rfl (yr rfl rfl bldSt2) (zk rfl rfl (zi (n:=0) rfl k9) (zk rfl rfl (zj 4 rfl rfl rfl k9 (zO 3 rfl d9 zn)) (zL rfl (Ef.mapNewQ (kt:=158) (et:=9) 3 rfl rfl rfl (le_seat _ _) rfl (by rw [seD_mem (Acc.seat_mem hf.fine' (Acc.mem_ins.2 (.inl rfl)) h51)];exact zd _) k9 (keySt _) s9 (fun _ h=>mL _ h)) ?_ zA))))))))))))
  rintro _ rfl;refine zP ?_;refine Zv (fn:=Tryz.f110) (⟨g13,g14,t46,[g13],[g14]⟩) [0,1,2,5,4] (Rs.none V) d9 ⟨la V,⟨lR V,⟨⟨_,V,leMapQ (fun k=>by rw [← Acc.mem_names_ins];simp [h0]) (fun _ _=>zd _)⟩,⟨⟨_,rfl,leMapQ (fun k=>by rw [← Acc.mem_seats_ins h51];simp [hs0]) (fun _ _=>zd _)⟩,⟨lR rfl,trivial⟩⟩⟩⟩⟩
 ·have h51:a.role=3:=by simpa using hb51
  refine zu ?_;refine Zv (fn:=Tryz.f110) (⟨g13,g14,t46,[g13],[g14]⟩) [0,1,2,3,5] (Rs.none V) d9 ⟨la V,⟨lR V,⟨⟨_,V,leMapQ (fun k=>by rw [← Acc.mem_names_ins];simp [h0]) (fun _ _=>zd _)⟩,⟨⟨_,rfl,leMapQ (fun k=>by rw [← Acc.mem_seats_ins3 h51];simp [hs0]) (fun _ _=>zd _)⟩,⟨lR rfl,trivial⟩⟩⟩⟩⟩
theorem con_put1 (gb g1 g2:Nat) (n:Ust) (F1 F2:LN) (l:List Acc.T) (a:Acc.T) (A:Option Addr) (c:Nat) (F:LN) (R:Res) (hR:YB R (.slice A a.key.length c) (cellsOf a.key)) (hb:a.key.length≤1000000) (hl:l.length≤100000) (hf:Acc.Free l a):ConR Tryz.prog 110 [.c gb [isD (.map (some g1)),isD (.slice n.A (Acc.nm l).length n.c),isD (.map (some g2))],.r n.F (yj 9 1 Zj n.A n.c (Acc.nm l)),.r F1 (ya (some g1) yA (Acc.nm l) (acD l)),.r F2 (ya (some g2) yu (Acc.seats l) (seD l)),.r F R] [pA gb,Zn [yp a.name,iD a.role,isD (.slice A a.key.length c),iD a.dep,iD a.num]] (fun t:Nat × Nat × Ust × LN × LN=>[.c gb [isD (.map (some t.1)),isD (.slice t.2.2.1.A (Acc.nm (Acc.ins l a)).length t.2.2.1.c),isD (.map (some t.2.1))],.r t.2.2.1.F (yj 9 1 Zj t.2.2.1.A t.2.2.1.c (Acc.nm (Acc.ins l a))),.r t.2.2.2.1 (ya (some t.1) yA (Acc.nm (Acc.ins l a)) (acD (Acc.ins l a))),.r t.2.2.2.2 (ya (some t.2.1) yu (Acc.seats (Acc.ins l a)) (seD (Acc.ins l a))),.r F R]) (fun t:Nat × Nat × Ust × LN × LN=>isD (.tuple #[])):=by
 have hin:Acc.nm (Acc.ins l a)=(Acc.nm l).take (Acc.pos l a.name) ++ a.name :: (Acc.nm l).drop (Acc.pos l a.name):=Acc.names_ins l a;have hpl:=Acc.pos_le l a.name
 have hil:(Acc.nm (Acc.ins l a)).length=(Acc.nm l).length + 1:=by simp [Acc.ins_len]
 refine zW Tryz.func110 k9 V k9 fun base w0=>(zh (zb (zl (S:=[]) (yV V V) ?_)));rintro _ ⟨g3,rfl⟩
 refine zf (zc (zh (zh (zb (za V (ze V) (za V (zt V) (za V (zi (n:=0) V k9) (za V (zj 0 V V V k9 zn) (za V (Rd.eqM (kt:=9) (et:=121) V V k9) (zf (zc (zB V (V) (zu (zc (zh (zQ (σ':=zK [(0,pA gb),(3,pA g3)] [.c gb [isD (.map (some g1)),isD (.slice n.A (Acc.nm l).length n.c),isD (.map (some g2))],.r n.F (yj 9 1 Zj n.A n.c (Acc.nm l)),.r F1 (ya (some g1) yA (Acc.nm l) (acD (Acc.ins l a))),.r F2 (ya (some g2) yu (Acc.seats l) (seD (Acc.ins l a))),.c g3 [yp a.name,iD a.role,isD (.slice A a.key.length c),iD a.dep,iD a.num],.r F R]) (⟨⟨_,V,(sT V)⟩,[0,1,2,3,5,4],by decide,⟨la rfl,⟨lR rfl,⟨⟨_,rfl,leMapQ (fun _=>Iff.rfl) (fun k hk=>acD_eq (Acc.find_ins' hf.fine.srt hf.fine'.srt hk))⟩,⟨⟨_,rfl,leMapQ (fun _=>Iff.rfl) (fun k hk=>seD_eq (Acc.seat_ins' hf.fine hf.fine' hk))⟩,(sX rfl)⟩⟩⟩⟩⟩) (yh (F1 ++ []) (.r 0 (.r 1 (.r 2 (.r 3 (.r 4 (.r 5 (.r 6 (.n 7 (.e 8 .fin .no) .no)))))))) k9 k9 (fun d _ _ _ _ h=>by cases d <;> exact h) (zk rfl rfl (ze rfl) (zk rfl rfl (zt rfl) (zk rfl rfl (zi (n:=0) rfl k9) (zk rfl rfl (zj 0 rfl rfl rfl k9 (zO 2 rfl d9 zn)) (zk rfl rfl (zi (n:=0) rfl k9) (zk rfl rfl (zj 4 rfl rfl rfl k9 (zO 2 rfl d9 zn)) (zk rfl rfl (zG 4 5 rfl rfl k9 rfl (zO 2 rfl d9 zn)) (zY rfl (zz [5] (con_copied a.name a.role a.key a.dep a.num hb) rfl ⟨(sees_agg ⟨(zq (zd _)),(zq (zd _)),(sees_view 5 rfl hR d9),(zq (zd _)),(zq (zd _)),trivial⟩),trivial⟩ rfl) ?_ zA)))))))))))))))))))))))))
 rintro _ rfl;refine zL V (Ef.mapNewQ (kt:=9) (et:=121) 2 V V V (zd _) V (by rw [acD_mem (Acc.find_ins hf.fine'.srt)];exact zd _) k9 (keyNm _) hf.nm (fun _ h=>mL _ h)) ?_ zA;rintro _ rfl
 refine zP (zc (zh (zQ (σ':=zK [(0,pA gb),(3,pA g3)] [.c gb [isD (.map (some g1)),isD (.slice n.A (Acc.nm l).length n.c),isD (.map (some g2))],.r n.F (yj 9 1 Zj n.A n.c (Acc.nm l)),.r F1 (ya (some g1) yA (a.name :: (Acc.nm l)) (acD (Acc.ins l a))),.r F2 (ya (some g2) yu (Acc.seats l) (seD (Acc.ins l a))),.c g3 [yp a.name,iD a.role,isD (.slice A a.key.length c),iD a.dep,iD a.num],.r F R]) (sB [0,1,5,2,3,4] V V) (yh [] (.r 0 (.r 1 (.r 2 (.r 3 (.r 4 (.r 5 (.n 6 (.r 7 (.r 8 (.r 9 (.r 10 (.r 11 .fin))))) .no))))))) k9 k9 (fun d _ _ _ _ h=>by cases d <;> exact h) (zk rfl rfl (ze rfl) (zk rfl rfl (zt rfl) (zk rfl rfl (zi (n:=1) rfl k9) (zk rfl rfl (zj 0 rfl rfl rfl k9 zn) (zk rfl rfl (zi (n:=0) rfl k9) (zk rfl rfl (zj 4 rfl rfl rfl k9 zn) (zY rfl (zz [1] ((con_search lays26 l a.name hf.fine.srt o9)) rfl ⟨(Zl 1 rfl d9),(zq (zd _)),trivial⟩ rfl) ?_ zA)))))))))))
 rintro _ rfl
 refine zk V V (ze V) (zk V V (zr V V) (zk V V (zr V V) (zk V V (zg V) (zk V V (zg V) (zP (zc (zh (zQ (σ':=zK [(0,pA gb),(3,pA g3),(4,iD (Acc.pos l a.name:Int))] [.c gb [isD (.map (some g1)),isD (.slice n.A (Acc.nm l).length n.c),isD (.map (some g2))],.r n.F (yj 9 1 Zj n.A n.c (Acc.nm l)),.r F1 (ya (some g1) yA (a.name :: (Acc.nm l)) (acD (Acc.ins l a))),.r F2 (ya (some g2) yu (Acc.seats l) (seD (Acc.ins l a))),.c g3 [yp a.name,iD a.role,isD (.slice A a.key.length c),iD a.dep,iD a.num],.r F R]) (sB [0,1,2,3,4,5] V V) (yh (n.F ++ (gb :: [])) (.r 0 (.r 1 (.r 2 (.r 3 (.q 4 (.r 5 (.r 6 (.r 7 (.n 8 (.e 9 (.r 10 (.r 11 (.e 12 .fin .no))) .no) .no))))))))) k9 k9 (fun d _ _ _ _ h=>by cases d <;> exact h) (zk rfl rfl (ze rfl) (zk rfl rfl (ze rfl) (zk rfl rfl (zt rfl) (zk rfl rfl (zi (n:=1) rfl k9) (SWz.rq rfl rfl (zj 0 rfl rfl rfl k9 zn) (zk rfl rfl (ze rfl) (zk rfl rfl (zi (n:=0) rfl k9) (zk rfl rfl (zj 4 rfl rfl rfl k9 (zO 1 rfl d9 (yB 0 rfl d9 zn))) (zY rfl (Ef.litB (e:=9) [yA a.name] rfl rfl (fun L w vs hv=>by obtain ⟨u,rfl,rfl⟩:=all1 hv;intro w';kernel_rfl) rfl) ?_ zA))))))))))))))))))
 rintro _ rfl;refine zL V (zx [1] ((con_insert lays22 (Acc.nm l) n a.name (Acc.pos l a.name) (by simpa using hpl) (by simpa using (by omega:l.length≤1000000)))) V ⟨zd _,zd _,zd _,t9⟩ d9 ⟨lR V,t9⟩ (fin_r (fun _ h=>mL _ h) yQ) V) ?_ zA;rintro _ ⟨t46,rfl⟩;refine zk V V (zt V) (zk V V (zi (n:=1) V k9) (zL V (zN 0 V V V k9 V (mR _ mC)) ?_ zA));rintro _ rfl;refine zP (zc (zh (zQ (σ':=zK [(0,pA gb),(3,pA g3)] [.c gb [isD (.map (some g1)),isD (.slice t46.A (Acc.nm (Acc.ins l a)).length t46.c),isD (.map (some g2))],.r t46.F (yj 9 1 Zj t46.A t46.c (Acc.nm (Acc.ins l a))),.r F1 (ya (some g1) yA (a.name :: (Acc.nm l)) (acD (Acc.ins l a))),.r F2 (ya (some g2) yu (Acc.seats l) (seD (Acc.ins l a))),.c g3 [yp a.name,iD a.role,isD (.slice A a.key.length c),iD a.dep,iD a.num],.r F R]) (⟨⟨_,V,(sT V)⟩,[0,5,1,2,3,4],by decide,⟨⟨_,rfl,⟨zd _,zE (by rw [hil]),zd _,trivial⟩⟩,⟨⟨_,rfl,Z9 (by rw [hin]) (by rw [hin])⟩,(sX rfl)⟩⟩⟩) (zb (za rfl (zi (n:=1) rfl k9) (za rfl (zj 4 rfl rfl rfl k9 zn) (za rfl (zX rfl rfl) (zf (zc (zI rfl (fun hb51=> ?_) (fun hb51=> ?_)))))))))))
 ·have h51:a.role≠3:=by simpa using hb51
  refine yh (F2 ++ []) (.r 0 (.r 1 (.r 2 (.r 3 (.r 4 (.r 5 (.r 6 (.r 7 (.r 8 (.r 9 (.r 10 (.e 11 .fin .no)))))))))))) k9 k9 (fun d _ _ _ _ h=>by cases d <;> exact h) (zk rfl rfl (ze rfl) (zk rfl rfl (zt rfl) (zk rfl rfl (zi (n:=2) rfl k9) (zk rfl rfl (zj 0 rfl rfl rfl k9 (zO 3 rfl d9 zn)) (zk rfl rfl (zi (n:=1) rfl k9) (zk rfl rfl (zj 4 rfl rfl rfl k9 (zO 3 rfl d9 zn)) (zk rfl rfl (zi (n:=4) rfl k9) (zk rfl rfl (zj 4 rfl rfl rfl k9 (zO 3 rfl d9 zn)) (zk rfl rfl (yr rfl rfl bldSt2) (zk rfl rfl (zi (n:=0) rfl k9) (zk rfl rfl (zj 4 rfl rfl rfl k9 (zO 3 rfl d9 zn)) (zL rfl (Ef.mapNewQ (kt:=158) (et:=9) 3 rfl rfl rfl (le_seat _ _) rfl (by rw [seD_mem (Acc.seat_mem hf.fine' (Acc.mem_ins.2 (.inl rfl)) h51)];exact zd _) k9 (keySt _) (hf.st h51) (fun _ h=>mL _ h)) ?_ zA))))))))))))
  rintro _ rfl;refine zP ?_;refine Zv (fn:=Tryz.f110) (⟨g1,g2,t46,F1,F2⟩) [0,1,2,5,4] (Rs.none V) d9 ⟨la V,⟨lR V,⟨⟨_,V,leMapQ (fun k=>Acc.mem_names_ins) (fun _ _=>zd _)⟩,⟨⟨_,V,leMapQ (fun k=>Acc.mem_seats_ins h51) (fun _ _=>zd _)⟩,⟨lR V,t9⟩⟩⟩⟩⟩
 ·have h51:a.role=3:=by simpa using hb51
  refine zu ?_;refine Zv (fn:=Tryz.f110) (⟨g1,g2,t46,F1,F2⟩) [0,1,2,3,5] (Rs.none V) d9 ⟨la V,⟨lR V,⟨⟨_,V,leMapQ (fun k=>Acc.mem_names_ins) (fun _ _=>zd _)⟩,⟨⟨_,V,leMapQ (fun k=>Acc.mem_seats_ins3 h51) (fun _ _=>zd _)⟩,⟨lR V,t9⟩⟩⟩⟩⟩
theorem ConR.map {P:Program} {f:FuncId} {pre:List Box} {ad:List D} {ι ι':Type} {post:ι→List Box} {d:ι→D} {post':ι'→List Box} {d':ι'→D} (h:ConR P f pre ad post d) (g:ι→ι') (hp:∀ i,post i=post' (g i)) (hd:∀ i,d i=d' (g i)):ConR P f pre ad post' d':=
 ⟨h.en,fun L w vs h1 h2 h3 h4 h5 h6 h7=>(h.go L w vs h1 h2 h3 h4 h5 h6 h7).mono fun e w' ⟨i,v,a1,a2,a3,a4,a5,a6⟩=>⟨g i,v,a1,by rw [← hp,← hd];exact a2,by rw [← hp];exact a3,by rw [← hp];exact a4,by rw [← hp];exact a5,a6⟩⟩
theorem con_put (gb:Nat) (s:Bst) (l:List Acc.T) (a:Acc.T) (A:Option Addr) (c:Nat) (F:LN) (R:Res) (hR:YB R (.slice A a.key.length c) (cellsOf a.key)) (hb:a.key.length≤1000000) (hl:l.length≤100000) (hf:Acc.Free l a):
  ConR Tryz.prog 110 [bookC gb s l,bookN s l,bookA s l,bookS s l,.r F R] [pA gb,Zn [yp a.name,iD a.role,isD (.slice A a.key.length c),iD a.dep,iD a.num]]
   (fun t:Bst=>[bookC gb t (Acc.ins l a),bookN t (Acc.ins l a),bookA t (Acc.ins l a),bookS t (Acc.ins l a),.r F R]) (fun _=>isD (.tuple #[])):=by
 obtain ⟨M,F1,F2,n⟩:=s
 match M with
 | none=>exact (con_put0 gb n F1 F2 l a A c F R hR hb hl hf).map (fun t=>⟨some (t.1,t.2.1),t.2.2.2.1,t.2.2.2.2,t.2.2.1⟩) (fun _=>rfl) (fun _=>rfl)
 | some (g1,g2)=>exact (con_put1 gb g1 g2 n F1 F2 l a A c F R hR hb hl hf).map (fun t=>⟨some (t.1,t.2.1),t.2.2.2.1,t.2.2.2.2,t.2.2.1⟩) (fun _=>rfl) (fun _=>rfl)
theorem Acc.free_of {l:List Acc.T} {a:Acc.T} (hf:Acc.Fine l) (ha:Acc.ok a) (hc:¬ ∃ x∈l,Acc.clash a x) (hl:l.length < 256):Acc.Free l a:=
 ⟨hf,hf.ins ha hc hl,fun h=>by obtain ⟨x,hx,e⟩:=List.mem_map.1 h;exact hc ⟨x,hx,.inl e⟩,fun h3 h=>by
  obtain ⟨x,hx,h4,e⟩:=Acc.mem_seats.1 h;injection e with e1 e2
  exact hc ⟨x,hx,.inr ⟨e1,e2,h3⟩⟩⟩
theorem Yo {l:List Acc.T} {a:Acc.T} (h:¬Acc.ok a):Acc.add l a=(l,2):=by unfold Acc.add;rw [if_neg h]
theorem yP {l:List Acc.T} {a:Acc.T} (h:Acc.ok a) (hc:∃ x∈l,Acc.clash a x):Acc.add l a=(l,11):=by unfold Acc.add;rw [if_pos h,if_pos hc]
theorem ZF {l:List Acc.T} {a:Acc.T} (h:Acc.ok a) (hc:¬ ∃ x∈l,Acc.clash a x) (hl:256≤l.length):Acc.add l a=(l,7):=by unfold Acc.add;rw [if_pos h,if_neg hc,if_pos hl]
theorem ZH {l:List Acc.T} {a:Acc.T} (h:Acc.ok a) (hc:¬ ∃ x∈l,Acc.clash a x) (hl:¬256≤l.length):Acc.add l a=(Acc.ins l a,0):=by unfold Acc.add;rw [if_pos h,if_neg hc,if_neg hl]
theorem YS {l:List Acc.T} {a:Acc.T} (h:a.name∈Acc.nm l):∃ x∈l,Acc.clash a x:=by
 obtain ⟨x,hx,e⟩:=List.mem_map.1 h;exact ⟨x,hx,.inl e⟩
theorem YR {l:List Acc.T} {a:Acc.T} (h:(a.role,a.num)∈Acc.seats l):∃ x∈l,Acc.clash a x:=by
 obtain ⟨x,hx,h3,e⟩:=Acc.mem_seats.1 h;injection e with e1 e2;exact ⟨x,hx,.inr ⟨e1,e2,by rw [← e1];exact h3⟩⟩
theorem Zd {l:List Acc.T} {a:Acc.T} (h1:a.name∉Acc.nm l) (h2:(a.role,a.num)∉Acc.seats l):¬ ∃ x∈l,Acc.clash a x:=by
 rintro ⟨x,hx,hc⟩;rcases hc with hc | ⟨e1,e2,h3⟩
 ·exact h1 (List.mem_map.2 ⟨x,hx,hc⟩)
 ·exact h2 (Acc.mem_seats.2 ⟨x,hx,by rw [e1];exact h3,by rw [e1,e2]⟩)
def Acc.zero:Acc.T:=⟨[],0,[],0,0⟩
def Acc.getA (l:List Acc.T) (n:LB):Acc.T:=(Acc.find l n).getD Acc.zero
def Acc.getE (l:List Acc.T) (n:LB):Int:=if (Acc.find l n).isSome then 0 else 9
theorem Yn {l:List Acc.T} {n:LB} {x:Acc.T} (h:Acc.find l n=some x):Acc.getA l n=x∧Acc.getE l n=0:=by unfold Acc.getA Acc.getE;rw [h];exact ⟨rfl,rfl⟩
theorem Acc.get_no {l:List Acc.T} {n:LB} (h:Acc.find l n=none):Acc.getA l n=Acc.zero∧Acc.getE l n=9:=by unfold Acc.getA Acc.getE;rw [h];exact ⟨rfl,rfl⟩
theorem Acc.nm_in {l:List Acc.T} {n:LB} {x:Acc.T} (h:Acc.find l n=some x):n∈Acc.nm l:=List.mem_map.2 ⟨x,Acc.find_some h⟩
theorem Acc.nm_out {l:List Acc.T} {n:LB} (h:Acc.find l n=none):n∉Acc.nm l:=fun hm=>Acc.find_none.1 h (List.mem_map.1 hm)
theorem tup_ac {l:List Acc.T} {n:LB} {x:Acc.T} (h:Acc.find l n=some x):Le (Yv [acD l n,isD (.bool true)]) (Yv [Zn [yp x.name,iD x.role,bD x.key,iD x.dep,iD x.num],isD (.bool true)]):=by unfold acD;rw [h];exact zd _
theorem ac_x {l:List Acc.T} {n:LB} {x:Acc.T} (h:Acc.find l n=some x):Le (acD l n) (Zn [yp x.name,iD x.role,bD x.key,iD x.dep,iD x.num]):=by unfold acD;rw [h];exact zd _
theorem tup_z5:Le (Yv [isD (.agg #[.string ⟨#[]⟩,.int .i64 0,.slice none 0 0,.int .i64 0,.int .i64 0]),isD (.bool false)]) (Yv [Zn [yp [],iD 0,isD (.slice none 0 0),iD 0,iD 0],isD (.bool false)]):=Zc ⟨le_is_agg (vs:=[.string ⟨#[]⟩,.int .i64 0,.slice none 0 0,.int .i64 0,.int .i64 0]),zd _,trivial⟩
theorem blsA1 (x:Acc.T):Bls Tryz.prog 29 1 [0] [Zn [yp x.name,iD x.role,bD x.key,iD x.dep,iD x.num]] ([x].flatMap encA):=⟨121,fun L w vs hv=>by
 obtain ⟨u,rfl,cs,rfl,hc⟩:=all1 hv
 match cs,hc with
 | [a,b,c,d,e],hc=>
  obtain ⟨rfl,rfl,h3,rfl,rfl,-⟩:=hc;have h3':=h3;obtain ⟨A,cp,rfl,-⟩:=h3
  exact ⟨[.string _,.int .i64 _,.slice A _ cp,.int .i64 _,.int .i64 _],⟨V,V,h3',V,V,t9⟩,fun w'=>by kernel_rfl⟩⟩
theorem nwA5 {n:Nat} {x:Acc.T}:Le (Zn [nwD n (yp x.name),nwD n (iD x.role),nwD n (bD x.key),nwD n (iD x.dep),nwD n (iD x.num)]) (nwD n (Zn (encA x))):=by
 have h:LeAll [nwD n (yp x.name),nwD n (iD x.role),nwD n (bD x.key),nwD n (iD x.dep),nwD n (iD x.num)] ([yp x.name,iD x.role,bD x.key,iD x.dep,iD x.num].map (nwD n)):=⟨zd _,zd _,zd _,zd _,zd _,trivial⟩;exact le_nw_agg h
theorem nwZ5 {n:Nat}:Le (Zn [yp [],iD 0,isD (.slice none 0 0),iD 0,iD 0]) (nwD n (Zn (encA Acc.zero))):=by
 have h:LeAll [yp [],iD 0,isD (.slice none 0 0),iD 0,iD 0] ([yp [],iD 0,bD [],iD 0,iD 0].map (nwD n)):=⟨zv,zv,Le.trans (zv (x:= .slice none 0 0)) (le_nw_mono (Nat.le_refl _) Zz),zv,zv,trivial⟩;exact le_nw_agg h
instance (a:Acc.T):Ones (encA a):=by unfold encA;infer_instance
end Sx
end Go.Proofs.YtgokpcnabgacnaaGreatDoor
