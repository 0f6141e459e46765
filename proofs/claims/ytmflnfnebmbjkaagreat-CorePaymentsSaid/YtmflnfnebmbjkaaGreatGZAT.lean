/- WHAT IS KNOWN OF Ints: the contracts that stand, in the words of Sx. A bridge: the words of Sy in the place of those of Sx. THE WALK of the reference' -/
import Derived.Test.YtmflnfnebmbjkaaGreatGZAS
set_option maxHeartbeats 8000000
set_option maxRecDepth 100000
namespace Go.Proofs.YtmflnfnebmbjkaaGreat
open Go.RowKit
open Nm (W32)
namespace Sx
abbrev rawD (b:LN):D:=slD (cN .u8 b)
abbrev bytD (X:Nat):D:=slD (cN .u8 (Nm.dg 256 X).reverse)
abbrev qK (X:Nat):D:=slD (cN .u8<|Nm.dg 256 X)
abbrev Y4 (X:Nat):D:=slD (cN .u32<|Nm.dg W32 X)
abbrev qu (x:Int):List D:=[isD<|.bool<|decide (x < 0),bytD x.natAbs]
abbrev rintC (s:Bool) (b:LN):List D:=[isD<|.bool s,rawD b]
abbrev Zs (x:Int):D:=Yq (qu x)
abbrev zbF (s:Bool) (b:LN):D:=Yq (rintC s b)
abbrev yZ (e:Int):D:=isD (.int .i64 e)
section
variable {L:List Nat}{w:World}{v:Value}
def Aw (L:LN) (A:Option Addr) (n:Nat):Prop:=0 < n→∀ p,A=some p→p.block∉L
theorem Zl {w0:World} {A:Option Addr} {n:Nat} (h:Frs w0 A) (hL:∀ g∈L,g < w0.heap.size):Aw L A n:=fun _ p hp hm=>by
 have:=h p hp;have:=hL _ hm;omega
theorem qt {X:Nat} (h:(qK X).R L w v):∃ A n c,v= .slice A n c∧LitS w A n c X∧Aw L A n:=by
 obtain ⟨A,c,hv,hc,hr,ha⟩:=h
 have hl:(cN .u8<|Nm.dg 256 X).length=Nm.len 256 X:=by rw [ye,Nm.dg_length]
 refine ⟨A,_,c,hv,⟨hl,hc,hr⟩,ha⟩
theorem zaT {A:Option Addr} {n c X:Nat} (h:LitS w A n c X) (ha:Aw L A n):(qK X).R L w (.slice A n c):=by
 have hl:(cN .u8<|Nm.dg 256 X).length=n:=by rw [ye,Nm.dg_length,h.n_eq]
 exact ⟨A,c,by rw [hl],by rw [hl];exact h.le,h.rd,by rw [hl];exact ha⟩
theorem Y3 {X:Nat} (h:(Y4 X).R L w v):∃ A n c,v= .slice A n c∧NatS w A n c X∧Aw L A n:=by
 obtain ⟨A,c,hv,hc,hr,ha⟩:=h
 have hl:(cN .u32<|Nm.dg W32 X).length=Nm.len W32 X:=by rw [ye,Nm.dg_length]
 refine ⟨A,_,c,hv,⟨hl,hc,hr⟩,ha⟩
theorem Wf {A:Option Addr} {n c X:Nat} (h:NatS w A n c X) (ha:Aw L A n):(Y4 X).R L w (.slice A n c):=by
 have hl:(cN .u32<|Nm.dg W32 X).length=n:=by rw [ye,Nm.dg_length,h.n_eq]
 exact ⟨A,c,by rw [hl],by rw [hl];exact h.le,h.rd,by rw [hl];exact ha⟩
theorem byt_out {X:Nat} (h:(bytD X).R L w v):∃ A n c,v= .slice A n c∧BytS w A n c X∧Aw L A n:=by
 obtain ⟨A,c,hv,hc,hr,ha⟩:=h
 have hl:(cN .u8 (Nm.dg 256 X).reverse).length=Nm.len 256 X:=by rw [ye,List.length_reverse,Nm.dg_length]
 refine ⟨A,_,c,hv,⟨hl,hc,hr⟩,ha⟩
theorem byt_in {A:Option Addr} {n c X:Nat} (h:BytS w A n c X) (ha:Aw L A n):(bytD X).R L w (.slice A n c):=by
 have hl:(cN .u8 (Nm.dg 256 X).reverse).length=n:=by rw [ye,List.length_reverse,Nm.dg_length,h.n_eq]
 exact ⟨A,c,by rw [hl],by rw [hl];exact h.le,h.rd,by rw [hl];exact ha⟩
theorem YB {x:Int} (h:(Zs x).R L w v):∃ s A n c,v= .agg #[.bool s,.slice A n c]∧IntS w s A n c x∧Aw L A n:=by
 obtain ⟨cs,hv,ha⟩:=h
 cases cs with
 | nil=>exact ha.elim
 | cons c1 cs=>
  cases cs with
  | nil=>exact ha.2.elim
  | cons c2 cs=>
   cases cs with
   | nil=>
    obtain ⟨h1,h2,-⟩:=ha;obtain ⟨A,n,c,h3,h4,h5⟩:=byt_out h2;rw [show c1=_ from h1,h3] at hv;exact ⟨_,A,n,c,hv,⟨I,h4⟩,h5⟩
   | cons=>exact ha.2.2.elim
theorem jM {x:Int} {s:Bool} {A:Option Addr} {n c:Nat} (h:IntS w s A n c x) (ha:Aw L A n):(Zs x).R L w (.agg #[.bool s,.slice A n c]):=
 ⟨[.bool s,.slice A n c],rfl,by rw [h.sg];rfl,byt_in h.by_ ha,trivial⟩
theorem rint_out {s:Bool} {b:LN} (h:(zbF s b).R L w v):∃ A n c,v= .agg #[.bool s,.slice A n c]∧n=b.length∧n≤c∧RV w A (cN .u8 b)∧Aw L A n:=by
 obtain ⟨cs,hv,ha⟩:=h
 cases cs with
 | nil=>exact ha.elim
 | cons c1 cs=>
  cases cs with
  | nil=>exact ha.2.elim
  | cons c2 cs=>
   cases cs with
   | nil=>
    obtain ⟨h1,⟨A,c,h3,h4,h5,h6⟩,-⟩:=ha;rw [show c1=_ from h1,h3] at hv;rw [ye] at hv h4 h6;exact ⟨A,_,c,hv,I,h4,h5,h6⟩
   | cons=>exact ha.2.2.elim
theorem YY {x y:Int} (h:x=y):Le (Zs x) (Zs y):=by subst h;exact zb _
theorem le_int0:Le (Yq [isD<|.bool false,isD<|.slice none 0 0]) (Zs 0):=by
 refine zbx ⟨zb _,?_,t9⟩
 have:(Nm.dg 256 (0:Int).natAbs).reverse=[]:=by rw [show (0:Int).natAbs=0 from rfl,Nm.dg_zero];rfl
 unfold bytD;rw [this];exact jg
theorem yU {a b:Int} (h:a=b):Le (yZ a) (yZ b):=by subst h;exact zb _
end
section
variable {f:FuncId}{x y:Int}
theorem Kz {z e:Int} (hen:ZU Tryz.prog f) (h:∀ w s t A B n c m d,IntS w s A n c x→IntS w t B m d y→Calls Tryz.prog f #[.agg #[.bool s,.slice A n c],.agg #[.bool t,.slice B m d]] w (RI w z e)):Con Tryz.prog f [Zs x,Zs y] (Zq [Zs z,yZ e]):=by
 refine ⟨hen,fun L w vs hL _ ha=> ?_⟩;obtain ⟨u,v,rfl,hu,hv⟩:=V2 ha;obtain ⟨s,A,n,c,rfl,h1,-⟩:=YB hu;obtain ⟨t,B,m,d,rfl,h2,-⟩:=YB hv;refine (h w s t A B n c m d h1 h2).mono ?_;rintro r w' ⟨s',A',n',c',rfl,hI,hF,hO⟩;exact ⟨_,I,⟨[_,_],I,jM hI<|Zl hF hL,I,t9⟩,hO⟩
theorem con_i_RI {z e:Int} (hen:ZU Tryz.prog f) (h:∀ w s A n c,IntS w s A n c x→Calls Tryz.prog f #[.agg #[.bool s,.slice A n c]] w (RI w z e)):Con Tryz.prog f [Zs x] (Zq [Zs z,yZ e]):=by
 refine ⟨hen,fun L w vs hL _ ha=> ?_⟩;obtain ⟨u,rfl,hu⟩:=WL ha;obtain ⟨s,A,n,c,rfl,h1,-⟩:=YB hu;refine (h w s A n c h1).mono ?_;rintro r w' ⟨s',A',n',c',rfl,hI,hF,hO⟩;exact ⟨_,I,⟨[_,_],I,jM hI<|Zl hF hL,I,t9⟩,hO⟩
theorem zb1 {q r e:Int} (hen:ZU Tryz.prog f) (h:∀ w s t A B n c m d,IntS w s A n c x→IntS w t B m d y→Calls Tryz.prog f #[.agg #[.bool s,.slice A n c],.agg #[.bool t,.slice B m d]] w (RI2 w q r e)):Con Tryz.prog f [Zs x,Zs y] (Zq [Zs q,Zs r,yZ e]):=by
 refine ⟨hen,fun L w vs hL _ ha=> ?_⟩;obtain ⟨u,v,rfl,hu,hv⟩:=V2 ha;obtain ⟨s,A,n,c,rfl,h1,-⟩:=YB hu;obtain ⟨t,B,m,d,rfl,h2,-⟩:=YB hv;refine (h w s t A B n c m d h1 h2).mono ?_;rintro r w' ⟨s',A',n',c',s2,A2,n2,c2,rfl,hI,hI2,hF,hF2,hO⟩;exact ⟨_,I,⟨[_,_,_],I,jM hI<|Zl hF hL,jM hI2<|Zl hF2 hL,I,t9⟩,hO⟩
theorem con_i_RV1 {z:Int} (hen:ZU Tryz.prog f) (h:∀ w s A n c,IntS w s A n c x→Calls Tryz.prog f #[.agg #[.bool s,.slice A n c]] w (RV1 w z)):Con Tryz.prog f [Zs x] (Zs z):=by
 refine ⟨hen,fun L w vs hL _ ha=> ?_⟩;obtain ⟨u,rfl,hu⟩:=WL ha;obtain ⟨s,A,n,c,rfl,h1,-⟩:=YB hu;refine (h w s A n c h1).mono ?_;rintro r w' ⟨s',A',n',c',rfl,hI,hF,hO⟩;exact ⟨_,I,jM hI<|Zl hF hL,hO⟩
theorem Wx {z:Int} {p:Value} (hen:ZU Tryz.prog f) (h:∀ w,Calls Tryz.prog f #[p] w (RV1 w z)):Con Tryz.prog f [isD p] (Zs z):=by
 refine ⟨hen,fun L w vs hL _ ha=> ?_⟩;obtain ⟨u,rfl,rfl⟩:=WL ha;refine (h w).mono ?_;rintro r w' ⟨s',A',n',c',rfl,hI,hF,hO⟩;exact ⟨_,I,jM hI<|Zl hF hL,hO⟩
theorem con_i_v {p:Value} (hen:ZU Tryz.prog f) (h:∀ w s A n c,IntS w s A n c x→Calls Tryz.prog f #[.agg #[.bool s,.slice A n c]] w fun e w'=>e= .returned p∧Only [] w w'):Con Tryz.prog f [Zs x] (isD p):=by
 refine ⟨hen,fun L w vs hL _ ha=> ?_⟩;obtain ⟨u,rfl,hu⟩:=WL ha;obtain ⟨s,A,n,c,rfl,h1,-⟩:=YB hu;refine (h w s A n c h1).mono ?_;rintro r w' ⟨rfl,hO⟩;exact ⟨_,I,I,hO⟩
theorem zbi {p:Value} (hen:ZU Tryz.prog f) (h:∀ w s t A B n c m d,IntS w s A n c x→IntS w t B m d y→Calls Tryz.prog f #[.agg #[.bool s,.slice A n c],.agg #[.bool t,.slice B m d]] w fun e w'=>e= .returned p∧Only [] w w'):Con Tryz.prog f [Zs x,Zs y] (isD p):=by
 refine ⟨hen,fun L w vs hL _ ha=> ?_⟩;obtain ⟨u,v,rfl,hu,hv⟩:=V2 ha;obtain ⟨s,A,n,c,rfl,h1,-⟩:=YB hu;obtain ⟨t,B,m,d,rfl,h2,-⟩:=YB hv;refine (h w s t A B n c m d h1 h2).mono ?_;rintro r w' ⟨rfl,hO⟩;exact ⟨_,I,I,hO⟩
theorem con_r_v {p:Value} {s:Bool} {b:LN} (hen:ZU Tryz.prog f) (h:∀ w A n c,n=b.length→RV w A (cN .u8 b)→Calls Tryz.prog f #[.agg #[.bool s,.slice A n c]] w fun e w'=>e= .returned p∧Only [] w w'):Con Tryz.prog f [zbF s b] (isD p):=by
 refine ⟨hen,fun L w vs hL _ ha=> ?_⟩;obtain ⟨u,rfl,hu⟩:=WL ha;obtain ⟨A,n,c,rfl,h1,-,h2,-⟩:=rint_out hu;refine (h w A n c h1 h2).mono ?_;rintro r w' ⟨rfl,hO⟩;exact ⟨_,I,I,hO⟩
end
end Sx
theorem df_grow {B:Nat} (hB:0 < B) (X Y k d:Nat) (hd:d=X / B ^ k % B + Nm.bw B X Y (k + 1) * B - Y / B ^ k % B - Nm.bw B X Y k):
  Nm.pad B (k + 1) (Nm.df B X Y<|k + 1)=Nm.pad B k (Nm.df B X Y k) ++ [d]:=by
 obtain ⟨-,h2,h3⟩:=Nm.df_step hB X Y k;rw [h2,← hd,zaN hB (Nm.df_lt hB X Y k).1 (by rw [hd];exact h3)]
theorem zbK (w:World) (A B:Option Addr) (n c m d X Y:Nat) (hn:n≤100000) (hA:LitS w A n c X) (hB:LitS w B m d Y) (hXY:Y≤X):
    Calls Tryz.prog 125 #[.slice A n c,.slice B m d] w fun e w'=>∃ A' n' c',e= .returned (.slice A' n' c')∧LitS w' A' n' c' (X - Y)∧Frs w A'∧Only [] w w':=by
  have Hm:=Jm hB.n_eq
  have hmn:m≤n:=by rw [hA.n_eq,hB.n_eq];exact Nm.len_mono d9 hXY
  go_enter Tryz.func125,Tryz.ntmps125
  go_wp2
  go_loopw [5,6,7,8] (fun out borrow i _ wr=>∃ (k b:Nat) (Ao:Option Addr) (co:Nat) (G:Option Nat),out= .slice Ao k co∧borrow= .int .i64 (b:Int)∧i= .int .i64 (k:Int)∧Hid (b=Nm.bw 256 X Y k)∧k≤n∧OwnS wr 5 Ao co (cN .u8<|Nm.pad 256 k<|Nm.df 256 X Y k) G∧New w G∧Only [] w wr) (fun _ _ i _ _=>n - (intOf i).toNat)
  case atStart=>exact ⟨0,0,none,0,none,rfl,rfl,rfl,by unfold Hid;rw [Nm.bw_zero],by omega,OwnS.none _ _,New.none _,Only.refl _ _⟩
  case round=>
    obtain ⟨k,b,Ao,co,G,rfl,rfl,rfl,hb,hk,hown,hnew,hO⟩:=hrel
    have hb1:=Nm.bw_le 256 X Y k
    rw [← hb.out] at hb1
    have hbI:(b:Int)≤1:=by omega
    have hkm:(k:Int)≤100000:=by omega
    by_cases hlt:k < n
    · have hltI:(k:Int) < (n:Int):=by omega
      obtain ⟨ga,oa,hAe,hga,hca⟩:=(hA.keep hO).at o9
      have c1:=hca k hlt
      have hst:=Jm (Nm.df_step (B:=256) d9 X Y k).1
      have hfl:=Jm (fun d=>df_grow (B:=256) d9 X Y k d)
      rw [← hb.out] at hst hfl
      obtain ⟨b',hb'⟩:∃ b',Hid (b'=Nm.bw 256 X Y (k + 1)):=⟨_,rfl⟩
      rw [← hb'.out] at hst hfl
      have hxl:X / 256 ^ k % 256 < 256:=Nat.mod_lt _ d9
      have hyl:Y / 256 ^ k % 256 < 256:=Nat.mod_lt _ d9
      have hy0:m≤k→Y / 256 ^ k % 256=0:=fun h=>Nm.high_zero d9 (by rw [← Hm.out];exact h)
      by_cases hkm2:k < m
      · have hkmI:(k:Int) < (m:Int):=by omega
        obtain ⟨gb,ob,hBe,hgb,hcb⟩:=(hB.keep hO).at o9
        have c2:=hcb k hkm2
        clear hca hcb hy0
        generalize X / 256 ^ k % 256=x at c1 hst hfl hxl
        generalize Y / 256 ^ k % 256=y at c2 hst hfl hyl
        have hxI:(x:Int) < 256:=by omega
        have hyI:(y:Int) < 256:=by omega
        subst hAe hBe
        by_cases hneg:x < y + b
        · obtain rfl:b'=1:=by rw [hst.out,Jh o9]
          obtain ⟨dd,Hd⟩:∃ d:Nat,Hid (d=x + 1 * 256 - (y) - b):=⟨_,rfl⟩
          have hnegI:(x:Int) - (b:Int) - (y:Int) < 0:=by omega
          have hw0:(x:Int) - (b:Int) - (y:Int) + 256=(dd:Int):=by have:=Hd.out;omega
          have hd1:(dd:Int) < 256:=by have:=Hd.out;omega
          have hgr:=Jm (JY (cN .u8)<|hfl.out dd Hd.out)
          obtain ⟨wj,rfl⟩:∃ wj:World,wj=wr:=⟨_,rfl⟩
          go_wp2_with (at_builtin
                       refine ZP I (.tmp 37) (.tmp 40) 158 5 I (.int .u8 0) 1 Tryz.underlying158 qv I Ao k co (cN .u8<|Nm.pad 256 k<|Nm.df 256 X Y k) G I s9 (hown.keep ((Only.refl [] wj).alloc _) s9) (some ⟨wj.heap.size,0,none⟩) 1 1 (cN .u8 [dd]) I I (RV.new I) Yw (by simp;omega) d9 ?_
                       intro A2 c2 w2 G2 hown2 hG2
                       rw [← y1,← hgr.out] at hown2
                       have hx:=Zu hG2
                       have hO2:=(hO.alloc<|.cells #[.int .u8 (dd:Int)] 5).trans hx hnew.out
                       have hn2:New w G2:=by
                         rcases hG2 with ⟨e,_⟩ | ⟨e,_⟩
                         · rw [e];exact hnew
                         · rw [e];intro g hg;injection hg with hg;have:=hO.size;simp at hg;omega
                       clear hG2 hx hown hnew hO)
          go_roundw
          case rel=>exact ⟨k + 1,1,A2,c2,G2,rfl,rfl,by go_num,hb',by omega,hown2,hn2,hO2⟩
          case measure=>simp [intOf];omega
        · obtain rfl:b'=0:=by rw [hst.out,Jb o9]
          obtain ⟨dd,Hd⟩:∃ d:Nat,Hid (d=x + 0 * 256 - (y) - b):=⟨_,rfl⟩
          have hnegI:0≤(x:Int) - (b:Int) - (y:Int):=by omega
          have hw0:(x:Int) - (b:Int) - (y:Int)=(dd:Int):=by have:=Hd.out;omega
          have hd1:(dd:Int) < 256:=by omega
          have hgr:=Jm (JY (cN .u8)<|hfl.out dd Hd.out)
          obtain ⟨wj,rfl⟩:∃ wj:World,wj=wr:=⟨_,rfl⟩
          go_wp2_with (at_builtin
                       refine ZP I (.tmp 37) (.tmp 40) 158 5 I (.int .u8 0) 1 Tryz.underlying158 qv I Ao k co (cN .u8<|Nm.pad 256 k<|Nm.df 256 X Y k) G I s9 (hown.keep ((Only.refl [] wj).alloc _) s9) (some ⟨wj.heap.size,0,none⟩) 1 1 (cN .u8 [dd]) I I (RV.new I) Yw (by simp;omega) d9 ?_
                       intro A2 c2 w2 G2 hown2 hG2
                       rw [← y1,← hgr.out] at hown2
                       have hx:=Zu hG2
                       have hO2:=(hO.alloc<|.cells #[.int .u8 (dd:Int)] 5).trans hx hnew.out
                       have hn2:New w G2:=by
                         rcases hG2 with ⟨e,_⟩ | ⟨e,_⟩
                         · rw [e];exact hnew
                         · rw [e];intro g hg;injection hg with hg;have:=hO.size;simp at hg;omega
                       clear hG2 hx hown hnew hO)
          go_roundw
          case rel=>exact ⟨k + 1,0,A2,c2,G2,rfl,rfl,by go_num,hb',by omega,hown2,hn2,hO2⟩
          case measure=>simp [intOf];omega
      · have hkmI:(m:Int)≤(k:Int):=by omega
        rw [hy0 o9] at hst hfl
        clear hca hy0 hyl
        generalize X / 256 ^ k % 256=x at c1 hst hfl hxl
        have hxI:(x:Int) < 256:=by omega
        subst hAe
        by_cases hneg:x < b
        · obtain rfl:b'=1:=by rw [hst.out,Jh o9]
          obtain ⟨dd,Hd⟩:∃ d:Nat,Hid (d=x + 1 * 256 - (0) - b):=⟨_,rfl⟩
          have hnegI:(x:Int) - (b:Int) < 0:=by omega
          have hw0:(x:Int) - (b:Int) + 256=(dd:Int):=by have:=Hd.out;omega
          have hd1:(dd:Int) < 256:=by have:=Hd.out;omega
          have hgr:=Jm (JY (cN .u8)<|hfl.out dd Hd.out)
          obtain ⟨wj,rfl⟩:∃ wj:World,wj=wr:=⟨_,rfl⟩
          go_wp2_with (at_builtin
                       refine ZP I (.tmp 37) (.tmp 40) 158 5 I (.int .u8 0) 1 Tryz.underlying158 qv I Ao k co (cN .u8<|Nm.pad 256 k<|Nm.df 256 X Y k) G I s9 (hown.keep ((Only.refl [] wj).alloc _) s9) (some ⟨wj.heap.size,0,none⟩) 1 1 (cN .u8 [dd]) I I (RV.new I) Yw (by simp;omega) d9 ?_
                       intro A2 c2 w2 G2 hown2 hG2
                       rw [← y1,← hgr.out] at hown2
                       have hx:=Zu hG2
                       have hO2:=(hO.alloc<|.cells #[.int .u8 (dd:Int)] 5).trans hx hnew.out
                       have hn2:New w G2:=by
                         rcases hG2 with ⟨e,_⟩ | ⟨e,_⟩
                         · rw [e];exact hnew
                         · rw [e];intro g hg;injection hg with hg;have:=hO.size;simp at hg;omega
                       clear hG2 hx hown hnew hO)
          go_roundw
          case rel=>exact ⟨k + 1,1,A2,c2,G2,rfl,rfl,by go_num,hb',by omega,hown2,hn2,hO2⟩
          case measure=>simp [intOf];omega
        · obtain rfl:b'=0:=by rw [hst.out,Jb o9]
          obtain ⟨dd,Hd⟩:∃ d:Nat,Hid (d=x + 0 * 256 - (0) - b):=⟨_,rfl⟩
          have hnegI:0≤(x:Int) - (b:Int):=by omega
          have hw0:(x:Int) - (b:Int)=(dd:Int):=by have:=Hd.out;omega
          have hd1:(dd:Int) < 256:=by omega
          have hgr:=Jm (JY (cN .u8)<|hfl.out dd Hd.out)
          obtain ⟨wj,rfl⟩:∃ wj:World,wj=wr:=⟨_,rfl⟩
          go_wp2_with (at_builtin
                       refine ZP I (.tmp 37) (.tmp 40) 158 5 I (.int .u8 0) 1 Tryz.underlying158 qv I Ao k co (cN .u8<|Nm.pad 256 k<|Nm.df 256 X Y k) G I s9 (hown.keep ((Only.refl [] wj).alloc _) s9) (some ⟨wj.heap.size,0,none⟩) 1 1 (cN .u8 [dd]) I I (RV.new I) Yw (by simp;omega) d9 ?_
                       intro A2 c2 w2 G2 hown2 hG2
                       rw [← y1,← hgr.out] at hown2
                       have hx:=Zu hG2
                       have hO2:=(hO.alloc<|.cells #[.int .u8 (dd:Int)] 5).trans hx hnew.out
                       have hn2:New w G2:=by
                         rcases hG2 with ⟨e,_⟩ | ⟨e,_⟩
                         · rw [e];exact hnew
                         · rw [e];intro g hg;injection hg with hg;have:=hO.size;simp at hg;omega
                       clear hG2 hx hown hnew hO)
          go_roundw
          case rel=>exact ⟨k + 1,0,A2,c2,G2,rfl,rfl,by go_num,hb',by omega,hown2,hn2,hO2⟩
          case measure=>simp [intOf];omega
    · obtain rfl:k=n:=by omega
      have hlx:Nm.len 256 X≤k:=by rw [hA.n_eq];exact Js _
      rw [Nm.df_all d9 hlx hXY] at hown
      have hF:=Kl hown hnew
      have hR:=hown.reads
      have hle:k≤co:=by have:=hown.le;simpa using this
      have Hlt:=Jm (Nat.lt_of_le_of_lt (Nat.sub_le X Y) hA.lt)
      clear hlx hown
      go_wp2_with (go_at_call 140;refine (qQ _ Ao k co (X - Y) hle o9 Hlt.out hR).mono ?_;rintro e w' ⟨m',rfl,rfl,hN⟩)
      go_ret
      exact ⟨_,_,_,I,hN,hF,hO⟩
namespace Sx
section
variable {x y:Int}
def e2:Nat:=200
def e4:Nat:=1000
def b2:Nat:=256 ^ e2
def b4:Nat:=256 ^ e4
theorem b24 {X:Nat} (h:X < b2):X < b4:=Ju h (Nat.pow_le_pow_right d9 d9)
theorem zbq {X:Nat} (h:X < zO):X < b2:=Ju h (Nat.pow_le_pow_right d9 d9)
theorem b4_512 {X:Nat} (h:X < zO):X < b4:=b24 (zbq h)
theorem b4_add {X Y:Nat} (hX:X < b2) (hY:Y < b2):X + Y < b4:=by
 have h1:256 ^ e2 * 2≤256 ^ e2 * 256:=Nat.mul_le_mul_left _ d9;have h2:256 ^ (e2 + 1)≤256 ^ e4:=Nat.pow_le_pow_right d9 d9;rw [XI] at h2;unfold b2 at hX hY;unfold b4;omega
theorem n_64 {w:World} {s:Bool} {A:Option Addr} {n c:Nat} {z:Int} (h:IntS w s A n c z) (hz:z.natAbs < b4):n≤100000:=by
 rw [h.by_.n_eq];exact JG ((Nm.len_le (B:=256) d9 e4 _).2 hz) d9
theorem con_add (hx:x.natAbs < zO) (hy:y.natAbs < zO):Con Tryz.prog 136 [Zs x,Zs y] (Zq [Zs<|YM<|x + y,yZ<|Z6<|x + y]):=
 Kz (enters_of Tryz.func136 k9 rfl) fun w s t A B n c m d h1 h2=>add_any w s t A B n c m d x y hx hy h1 h2
theorem con_sub (hx:x.natAbs < zO) (hy:y.natAbs < zO):Con Tryz.prog 137 [Zs x,Zs y] (Zq [Zs<|YM<|x - y,yZ<|Z6<|x - y]):=
 Kz (enters_of Tryz.func137 k9 rfl) fun w s t A B n c m d h1 h2=>sub_any w s t A B n c m d x y hx hy h1 h2
theorem zal (hx:x.natAbs < zO) (hy:y.natAbs < zO):Con Tryz.prog 135 [Zs x,Zs y] (Zq [Zs<|YM<|x * y,yZ<|Z6<|x * y]):=
 Kz (enters_of Tryz.func135 k9 rfl) fun w s t A B n c m d h1 h2=>mul_any w s t A B n c m d x y hx hy h1 h2
theorem con_neg (hx:x.natAbs < zO):Con Tryz.prog 102 [Zs x] (Zq [Zs<|-x,yZ 0]):=
 con_i_RI (enters_of Tryz.func102 k9 rfl) fun w s A n c h=>neg_any w s A n c x hx h
theorem jv (h1: -9223372036854775808≤x) (h2:x≤9223372036854775807):Con Tryz.prog 62 [yZ x] (Zs x):=
 Wx (enters_of Tryz.func62 k9 rfl) fun w=>of_any w x h1 h2
theorem zbe (h1: -9223372036854775808≤x) (h2:x≤9223372036854775807):Con Tryz.prog 69 [yZ x] (Zs x):=
 Wx (enters_of Tryz.func69 k9 rfl) fun w=>ofR_any w x h1 h2
theorem YU (hx:x.natAbs < zO):Con Tryz.prog 66 [Zs x] (yZ x.sign):=
 con_i_v (enters_of Tryz.func66 k9 rfl) fun w s A n c h=>sign_any w s A n c x hx h
theorem Kq (hx:x.natAbs < zO):Con Tryz.prog 100 [Zs x] (yK true):=
 con_i_v (enters_of Tryz.func100 k9 rfl) fun w s A n c h=>y9 w s A n c x h hx
theorem jr (s:Bool) (b:LN):Con Tryz.prog 100 [zbF s b] (yK<|vld s b):=
 con_r_v (enters_of Tryz.func100 k9 rfl) fun w A n c h1 h2=>V6 w s A n c b h1 h2
theorem con_same:Con Tryz.prog 55 [Zs x,Zs y] (yK<|decide (x=y)):=
 zbi (enters_of Tryz.func55 k9 rfl) fun w s t A B n c m d h1 h2=>same_any w s t A B n c m d x y h1 h2
theorem con_negR (hx:x.natAbs < b4):Con Tryz.prog 113 [Zs x] (Zs<|-x):=
 con_i_RV1 (enters_of Tryz.func113 k9 rfl) fun w s A n c h=>Vy w s A n c x (n_64 h hx) h
def cmpN (X Y:Nat):Int:=if X < Y then -1 else if X=Y then 0 else 1
def j3 (x y:Int):Int:=if x < y then -1 else if x=y then 0 else 1
theorem cmpN_of {X Y:Nat} {r:Int} (h:Cmp X Y r):r=cmpN X Y:=by
 unfold cmpN;rcases h with ⟨h,rfl⟩ | ⟨h,rfl⟩ | ⟨h,rfl⟩
 ·rw [Jh h]
 ·rw [Jb o9,Jh h]
 ·rw [Jb o9,Jb o9]
theorem cmpZ_of {x y r:Int} (h:CmpZ x y r):r=j3 x y:=by
 unfold j3;rcases h with ⟨h,rfl⟩ | ⟨h,rfl⟩ | ⟨h,rfl⟩
 ·rw [Jh h]
 ·rw [Jb o9,Jh h]
 ·rw [Jb o9,Jb o9]
theorem qz (hx:x.natAbs < zO) (hy:y.natAbs < zO):Con Tryz.prog 65 [Zs x,Zs y] (yZ<|j3 x y):=
 zbi (enters_of Tryz.func65 k9 rfl) fun w s t A B n c m d h1 h2=>(zap w s t A B n c m d x y hx hy h1 h2).mono fun _ _ ⟨r,he,hr,hO⟩=>⟨by rw [he,cmpZ_of hr.out],hO⟩
end
section
variable {X Y:Nat}
theorem zb9 {w:World} {A:Option Addr} {n c X:Nat} (h:LitS w A n c X) (hX:X < b4):n≤100000:=by
 rw [h.n_eq];exact JG ((Nm.len_le (B:=256) d9 e4 _).2 hX) d9
theorem q8 {x:Int} (hx:x.natAbs < b4):Con Tryz.prog 122 [Zs x] (qK x.natAbs):=by
 refine ⟨enters_of Tryz.func122 k9 I,fun L w vs hL _ ha=> ?_⟩;obtain ⟨u,rfl,hu⟩:=WL ha;obtain ⟨s,A,n,c,rfl,h1,-⟩:=YB hu;refine (zbr w s A n c x (n_64 h1 hx) h1).mono ?_;rintro r w' ⟨A',n',c',rfl,hI,hF,hO⟩;exact ⟨_,I,zaT hI<|Zl hF hL,hO⟩
theorem Kx (hX:X < b4) (hY:Y < b4):Con Tryz.prog 124 [qK X,qK Y] (qK<|X + Y):=by
 refine ⟨enters_of Tryz.func124 k9 I,fun L w vs hL _ ha=> ?_⟩;obtain ⟨u,v,rfl,hu,hv⟩:=V2 ha;obtain ⟨A,n,c,rfl,h1,-⟩:=qt hu;obtain ⟨B,m,d,rfl,h2,-⟩:=qt hv;refine (plusR_any w A B n c m d X Y (zb9 h1 hX) (zb9 h2 hY) h1 h2).mono ?_;rintro r w' ⟨A',n',c',rfl,hI,hF,hO⟩;exact ⟨_,I,zaT hI<|Zl hF hL,hO⟩
theorem Ve (hX:X < b4) (hY:Y < b4):Con Tryz.prog 121 [qK X,qK Y] (yZ<|cmpN X Y):=by
 refine ⟨enters_of Tryz.func121 k9 I,fun L w vs hL _ ha=> ?_⟩;obtain ⟨u,v,rfl,hu,hv⟩:=V2 ha;obtain ⟨A,n,c,rfl,h1,-⟩:=qt hu;obtain ⟨B,m,d,rfl,h2,-⟩:=qt hv;refine (zbG w A B n c m d X Y (JG (zb9 h1 hX) d9) (JG (zb9 h2 hY) d9) h1 h2).mono ?_;rintro r w' ⟨r',rfl,hr,hO⟩;exact ⟨_,I,by rw [cmpN_of hr.out];rfl,hO⟩
theorem Yj (neg:Bool) (hX:X < b4):Con Tryz.prog 115 [yK neg,qK X] (Zs<|sgn neg X):=by
 refine ⟨enters_of Tryz.func115 k9 I,fun L w vs hL _ ha=> ?_⟩;obtain ⟨u,v,rfl,rfl,hv⟩:=V2 ha;obtain ⟨B,m,d,rfl,h2,-⟩:=qt hv;refine (qW w neg B m d X h2.le (JG (zb9 h2 hX) d9) h2.lt h2.pad).mono ?_;rintro r w' ⟨s',A',n',c',rfl,hI,hF,hO⟩;exact ⟨_,I,jM hI<|Zl hF hL,hO⟩
end
section
variable {X Y:Nat}
theorem jy (hX:X < b4) (hXY:Y≤X):Con Tryz.prog 125 [qK X,qK Y] (qK<|X - Y):=by
 refine ⟨enters_of Tryz.func125 k9 I,fun L w vs hL _ ha=> ?_⟩;obtain ⟨u,v,rfl,hu,hv⟩:=V2 ha;obtain ⟨A,n,c,rfl,h1,-⟩:=qt hu;obtain ⟨B,m,d,rfl,h2,-⟩:=qt hv;refine (zbK w A B n c m d X Y (zb9 h1 hX) h1 h2 hXY).mono ?_;rintro r w' ⟨A',n',c',rfl,hI,hF,hO⟩;exact ⟨_,I,zaT hI<|Zl hF hL,hO⟩
theorem con_trimR {n:Nat} (hn:n≤1000000) (hX:X < 256 ^ n):Con Tryz.prog 140 [slD<|cN .u8<|Nm.pad 256 n X] (qK X):=by
 refine ⟨enters_of Tryz.func140 k9 I,fun L w vs hL _ ha=> ?_⟩;obtain ⟨u,rfl,A,c,rfl,hc,hr,haw⟩:=WL ha
 have hl:(cN .u8<|Nm.pad 256 n X).length=n:=by simp
 rw [hl] at hc haw ⊢;refine (qQ w A n c X hc hn hX hr).mono ?_;rintro r w' ⟨m,rfl,rfl,hN⟩;refine ⟨_,I,zaT hN (fun h0=>haw ?_),Only.refl _ _⟩;have h1:=(Nm.len_le (B:=256) d9 n X).2 hX;rw [← hN.n_eq] at h1;omega
theorem zbO:Le (isD<|.slice none 0 0) (qK 0):=by
 unfold qK;rw [Nm.dg_zero];exact jg
theorem Wk {X Y:Nat} (h:X=Y):Le (qK X) (qK Y):=by subst h;exact zb _
theorem le_lit1 {d:Nat} (h:0 < d) (h2:d < 256):Le (slD [.int .u8 (d:Int)]) (qK d):=by
 have:Nm.dg 256 d=[d]:=by rw [Nm.dg_pos d9 o9,Nat.div_eq_of_lt h2,Nm.dg_zero,Nat.mod_eq_of_lt h2]
 unfold qK;rw [this];exact zb _
end
end Sx
namespace Sx
theorem cmpN_ge (X Y:Nat) (h:decide (0≤cmpN X Y)=true):Y≤X:=by
 unfold cmpN at h;simp at h
 split at h
 ·omega
 ·omega
end Sx
namespace Sx
theorem bldI0:Bld Tryz.prog 41 [] [] [isD<|.bool false,isD<|.slice none 0 0]:=fun L w vs h=>by
 obtain rfl:=all0 h;exact ⟨[.bool false,.slice none 0 0],⟨I,I,t9⟩,fun w'=>by kernel_rfl⟩
theorem agg2 {L:LN} {w:World} {d e:D} {v:Value} (h:(Yq [d,e]).R L w v):∃ a b,v= .agg #[a,b]∧d.R L w a∧e.R L w b:=by
 obtain ⟨cs,rfl,h⟩:=h;obtain ⟨a,b,rfl,h1,h2⟩:=V2 h;exact ⟨a,b,I,h1,h2⟩
theorem con_gcdB {s t:Bool} {b c:LN} (h:(vld s b && vld t c)=false):Con Tryz.prog 101 [zbF s b,zbF t c] (Zq [Zs 0,yZ 2]):=by
 refine z6 Tryz.func101 k9 I k9 fun base w0=>(zp (SWl.e2 (S:=[]) (yo I I) fun g2=>(SWl.e2 (S:=[]) (yo I I) fun g3=>(SWl.e2 (S:=[]) (Ef.alloc (zs:=[.bool false,.slice none 0 0]) k9 I) fun g4=>(zd I<|ze<|zh<|zp<|za I (zx 0 2 I I k9 I zt)<|zq (S:=[]) (zn (jr _ _) I ⟨zb _,t9⟩ I)<|za I (yF I)<|zc I<|yn 13 I (fun hb13=> ?_) (fun hb13=> ?_))))))
 ·skip
  refine zR hb13 (zR hb13<|zR hb13<|za I (zF I hb13 I)<|ze<|yg I I<|zp<|za I (yz I I bldI0)<|zq (S:=[_]) (zy 2 I I I k9 I<|m9 I)<|zd I<|ze<|zG (fn:=Tryz.f101) (fun _ _ h=>h)<|Rs.le (Rs.two I (zZ 2 I I k9)<|zo I) ?_);exact yX ⟨le_int0,zb _,t9⟩
 ·skip
  refine zU hb13 (zx 1 2 I I k9 I zt) (Zt (S:=[]) I I hb13 I (zn (jr _ _) I ⟨zb _,t9⟩ I) ?_);rintro _ rfl;refine zU hb13 (yF I) (za I (zM I hb13 I)<|ze<|zD I (fun hb17=> ?_) (fun hb17=> ?_))
  ·skip
   refine zp (za I (yz I I bldI0)<|zq (S:=[_]) (zy 2 I I I k9 I<|m9 I)<|zd I<|ze<|zG (fn:=Tryz.f101) (fun _ _ h=>h)<|Rs.le (Rs.two I (zZ 2 I I k9)<|zo I) ?_);exact yX ⟨le_int0,zb _,t9⟩
  ·exact absurd h (by simp_all)
end Sx
namespace Sx
theorem bytes_len {x:Int} {k:Nat} (h:x.natAbs < 256 ^ k):(Nm.dg 256 x.natAbs).reverse.length≤k:=by
 rw [List.length_reverse,Nm.dg_length];exact (Nm.len_le (B:=256) d9 k x.natAbs).2 h
theorem vld_int {x:Int} (hx:x.natAbs < zO):vld (decide (x < 0)) (Nm.dg 256 x.natAbs).reverse=true:=by
 have hl:=bytes_len (x:=x) (k:=64) hx;unfold vld
 by_cases h0:x=0
 ·subst h0;rw [show (0:Int).natAbs=0 from rfl,Nm.dg_zero]
  rfl
 ·have hne:x.natAbs≠0:=by omega
  have hlen:((Nm.dg 256 x.natAbs).reverse).length=Nm.len 256 x.natAbs:=by rw [List.length_reverse,Nm.dg_length]
  have hpos:0 < Nm.len 256 x.natAbs:=by
   rcases Xk (Nm.len 256 x.natAbs) with h | h
   ·exact absurd ((Nm.len_eq_zero (B:=256) d9).1 h) hne
   ·exact h
  rw [Jb o9]
  have htop:((Nm.dg 256 x.natAbs).reverse).getD 0 0≠0:=by
   obtain ⟨k,hk⟩:∃ k,Nm.len 256 x.natAbs=k + 1:=⟨Nm.len 256 x.natAbs - 1,by omega⟩;rw [Vt (i:=k) (r:=0) (by rw [Nm.dg_length];omega),Nm.dg_getD d9];intro h;have h1:=Nm.top_zero (B:=256) (X:=x.natAbs) (k:=k) d9 (by rw [← hk];exact Nm.lt_pow_len d9 _) h;have h2:=(Nm.len_le (B:=256) d9 k _).2 h1;omega
  rw [Jo hl,Jo htop]
  rfl
theorem le_v {p q:Value} (h:p=q):Le (isD p) (isD q):=zE h
theorem VD {x y:Int} (h:x=y):LeAll (qu x) (qu y):=by subst h;exact yI _
theorem con_signB {s:Bool} {b:LN} (h:vld s b=false):Con Tryz.prog 66 [zbF s b] (yZ 0):=by
 refine z6 Tryz.func66 k9 I k9 fun base w0=>(zp (SWl.e2 (S:=[]) (yo I I) fun g1=>(zd I<|ze<|zh<|SW.block<|zp<|za I (zx 0 2 I I k9 I zt)<|zq (S:=[]) (zn (jr _ _) I ⟨zb _,t9⟩ I)<|za I (yF I)<|zc I<|Yl I I (by simp [h]) I I<|Yl I I (by simp [h]) I I<|Yl I I (by simp [h]) I I<|Yl I I (by simp [h]) I I<|za I (zF I (by simp [h]) I)<|zd I<|ze<|yg I I<|zp<|zd I<|ze<|zG (fn:=Tryz.f66) (fun _ _ h=>h)<|Rs.le (zN I<|zo I) ?_)));exact zb _
end Sx
namespace Sx
theorem yN {ds es:List D} (h:ds=es):LeAll ds es:=by subst h;exact yI _
theorem lit_at {X j:Nat} {i:Int} (hi:i=(j:Int)) (hj:j < (cN .u8<|Nm.dg 256 X).length):(cN .u8<|Nm.dg 256 X)[i.toNat]? =some (.int .u8 ((X / 256 ^ j % 256:Nat):Int)):=by
 subst hi;rw [J7,yW (by simpa using hj),Nm.dg_getD d9]
theorem W7 {k:IntKind} {l m:LN} {o j d:Nat} {v:Int} (ho:o=j) (hv:v=(d:Int)) (hm:l.set j d=m):((cN k l).map isD).set o (isD<|.int k v)=(cN k m).map isD:=by
 subst ho hv hm;rw [← List.map_set,Zf]
theorem zbU {n X Y:Nat} (h:Y=X) (hn:n≤1000000) (hX:X < 256 ^ n):Con Tryz.prog 140 [slD<|cN .u8<|Nm.pad 256 n Y] (qK X):=by subst h;exact con_trimR hn hX
theorem jX {X:Nat}:(0 < ((cN .u8<|Nm.dg 256 X).length:Int))↔X≠0:=by
 rw [ye,Nm.dg_length];have:=Nm.len_eq_zero (B:=256) (x:=X) d9;omega
