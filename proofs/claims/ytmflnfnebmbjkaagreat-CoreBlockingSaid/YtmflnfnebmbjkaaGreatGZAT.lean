/- WHAT IS KNOWN OF Ints: the contracts that stand, in the words of Sx. A bridge: the words of Sy in the place of those of Sx. THE WALK of the reference' -/
import Derived.Test.YtmflnfnebmbjkaaGreatGZAS
set_option maxHeartbeats 8000000
set_option maxRecDepth 100000
namespace Go.Proofs.YtmflnfnebmbjkaaGreat
open Go.RowKit
open Nm (W32)
namespace Sx
abbrev zax (b:LN):D:=slD (cN .u8 b)
abbrev zcT (X:Nat):D:=slD (cN .u8 (Nm.dg 256 X).reverse)
abbrev q7 (X:Nat):D:=slD (cN .u8<|Nm.dg 256 X)
abbrev qf (X:Nat):D:=slD (cN .u32<|Nm.dg W32 X)
abbrev qJ (x:Int):List D:=[isD<|.bool<|decide (x < 0),zcT x.natAbs]
abbrev rintC (s:Bool) (b:LN):List D:=[isD<|.bool s,zax b]
abbrev Zc (x:Int):D:=Yj (qJ x)
abbrev Wv (s:Bool) (b:LN):D:=Yj (rintC s b)
abbrev y6 (e:Int):D:=isD (.int .i64 e)
section
variable {L:List Nat}{w:World}{v:Value}
def Aw (L:LN) (A:Option Addr) (n:Nat):Prop:=0 < n→∀ p,A=some p→p.block∉L
theorem Zk {w0:World} {A:Option Addr} {n:Nat} (h:Frs w0 A) (hL:∀ g∈L,g < w0.heap.size):Aw L A n:=fun _ p hp hm=>by
 have:=h p hp;have:=hL _ hm;omega
theorem qR {X:Nat} (h:(q7 X).R L w v):∃ A n c,v= .slice A n c∧LitS w A n c X∧Aw L A n:=by
 obtain ⟨A,c,hv,hc,hr,ha⟩:=h
 have hl:(cN .u8<|Nm.dg 256 X).length=Nm.len 256 X:=by rw [ye,Nm.dg_length]
 refine ⟨A,_,c,hv,⟨hl,hc,hr⟩,ha⟩
theorem zbo {A:Option Addr} {n c X:Nat} (h:LitS w A n c X) (ha:Aw L A n):(q7 X).R L w (.slice A n c):=by
 have hl:(cN .u8<|Nm.dg 256 X).length=n:=by rw [ye,Nm.dg_length,h.n_eq]
 exact ⟨A,c,by rw [hl],by rw [hl];exact h.le,h.rd,by rw [hl];exact ha⟩
theorem qe {X:Nat} (h:(qf X).R L w v):∃ A n c,v= .slice A n c∧NatS w A n c X∧Aw L A n:=by
 obtain ⟨A,c,hv,hc,hr,ha⟩:=h
 have hl:(cN .u32<|Nm.dg W32 X).length=Nm.len W32 X:=by rw [ye,Nm.dg_length]
 refine ⟨A,_,c,hv,⟨hl,hc,hr⟩,ha⟩
theorem WB {A:Option Addr} {n c X:Nat} (h:NatS w A n c X) (ha:Aw L A n):(qf X).R L w (.slice A n c):=by
 have hl:(cN .u32<|Nm.dg W32 X).length=n:=by rw [ye,Nm.dg_length,h.n_eq]
 exact ⟨A,c,by rw [hl],by rw [hl];exact h.le,h.rd,by rw [hl];exact ha⟩
theorem byt_out {X:Nat} (h:(zcT X).R L w v):∃ A n c,v= .slice A n c∧BytS w A n c X∧Aw L A n:=by
 obtain ⟨A,c,hv,hc,hr,ha⟩:=h
 have hl:(cN .u8 (Nm.dg 256 X).reverse).length=Nm.len 256 X:=by rw [ye,List.length_reverse,Nm.dg_length]
 refine ⟨A,_,c,hv,⟨hl,hc,hr⟩,ha⟩
theorem byt_in {A:Option Addr} {n c X:Nat} (h:BytS w A n c X) (ha:Aw L A n):(zcT X).R L w (.slice A n c):=by
 have hl:(cN .u8 (Nm.dg 256 X).reverse).length=n:=by rw [ye,List.length_reverse,Nm.dg_length,h.n_eq]
 exact ⟨A,c,by rw [hl],by rw [hl];exact h.le,h.rd,by rw [hl];exact ha⟩
theorem Ye {x:Int} (h:(Zc x).R L w v):∃ s A n c,v= .agg #[.bool s,.slice A n c]∧IntS w s A n c x∧Aw L A n:=by
 obtain ⟨cs,hv,ha⟩:=h
 cases cs with
 | nil=>exact ha.elim
 | cons c1 cs=>
  cases cs with
  | nil=>exact ha.2.elim
  | cons c2 cs=>
   cases cs with
   | nil=>
    obtain ⟨h1,h2,-⟩:=ha;obtain ⟨A,n,c,h3,h4,h5⟩:=byt_out h2;rw [show c1=_ from h1,h3] at hv;exact ⟨_,A,n,c,hv,⟨I,h4⟩,h5⟩
   | cons=>exact ha.2.2.elim
theorem ji {x:Int} {s:Bool} {A:Option Addr} {n c:Nat} (h:IntS w s A n c x) (ha:Aw L A n):(Zc x).R L w (.agg #[.bool s,.slice A n c]):=
 ⟨[.bool s,.slice A n c],rfl,by rw [h.sg];rfl,byt_in h.by_ ha,trivial⟩
theorem rint_out {s:Bool} {b:LN} (h:(Wv s b).R L w v):∃ A n c,v= .agg #[.bool s,.slice A n c]∧n=b.length∧n≤c∧RV w A (cN .u8 b)∧Aw L A n:=by
 obtain ⟨cs,hv,ha⟩:=h
 cases cs with
 | nil=>exact ha.elim
 | cons c1 cs=>
  cases cs with
  | nil=>exact ha.2.elim
  | cons c2 cs=>
   cases cs with
   | nil=>
    obtain ⟨h1,⟨A,c,h3,h4,h5,h6⟩,-⟩:=ha;rw [show c1=_ from h1,h3] at hv;rw [ye] at hv h4 h6;exact ⟨A,_,c,hv,I,h4,h5,h6⟩
   | cons=>exact ha.2.2.elim
theorem Yp {x y:Int} (h:x=y):Le (Zc x) (Zc y):=by subst h;exact zb _
theorem le_int0:Le (Yj [isD<|.bool false,isD<|.slice none 0 0]) (Zc 0):=by
 refine zb0 ⟨zb _,?_,t9⟩
 have:(Nm.dg 256 (0:Int).natAbs).reverse=[]:=by rw [show (0:Int).natAbs=0 from rfl,Nm.dg_zero];rfl
 unfold zcT;rw [this];exact jz
theorem yS {a b:Int} (h:a=b):Le (y6 a) (y6 b):=by subst h;exact zb _
end
section
variable {f:FuncId}{x y:Int}
theorem KO {z e:Int} (hen:ZV Tryz.prog f) (h:∀ w s t A B n c m d,IntS w s A n c x→IntS w t B m d y→Calls Tryz.prog f #[.agg #[.bool s,.slice A n c],.agg #[.bool t,.slice B m d]] w (RI w z e)):Con Tryz.prog f [Zc x,Zc y] (Zm [Zc z,y6 e]):=by
 refine ⟨hen,fun L w vs hL _ ha=> ?_⟩;obtain ⟨u,v,rfl,hu,hv⟩:=Wa ha;obtain ⟨s,A,n,c,rfl,h1,-⟩:=Ye hu;obtain ⟨t,B,m,d,rfl,h2,-⟩:=Ye hv;refine (h w s t A B n c m d h1 h2).mono ?_;rintro r w' ⟨s',A',n',c',rfl,hI,hF,hO⟩;exact ⟨_,I,⟨[_,_],I,ji hI<|Zk hF hL,I,t9⟩,hO⟩
theorem con_i_RI {z e:Int} (hen:ZV Tryz.prog f) (h:∀ w s A n c,IntS w s A n c x→Calls Tryz.prog f #[.agg #[.bool s,.slice A n c]] w (RI w z e)):Con Tryz.prog f [Zc x] (Zm [Zc z,y6 e]):=by
 refine ⟨hen,fun L w vs hL _ ha=> ?_⟩;obtain ⟨u,rfl,hu⟩:=zal ha;obtain ⟨s,A,n,c,rfl,h1,-⟩:=Ye hu;refine (h w s A n c h1).mono ?_;rintro r w' ⟨s',A',n',c',rfl,hI,hF,hO⟩;exact ⟨_,I,⟨[_,_],I,ji hI<|Zk hF hL,I,t9⟩,hO⟩
theorem zcA {q r e:Int} (hen:ZV Tryz.prog f) (h:∀ w s t A B n c m d,IntS w s A n c x→IntS w t B m d y→Calls Tryz.prog f #[.agg #[.bool s,.slice A n c],.agg #[.bool t,.slice B m d]] w (RI2 w q r e)):Con Tryz.prog f [Zc x,Zc y] (Zm [Zc q,Zc r,y6 e]):=by
 refine ⟨hen,fun L w vs hL _ ha=> ?_⟩;obtain ⟨u,v,rfl,hu,hv⟩:=Wa ha;obtain ⟨s,A,n,c,rfl,h1,-⟩:=Ye hu;obtain ⟨t,B,m,d,rfl,h2,-⟩:=Ye hv;refine (h w s t A B n c m d h1 h2).mono ?_;rintro r w' ⟨s',A',n',c',s2,A2,n2,c2,rfl,hI,hI2,hF,hF2,hO⟩;exact ⟨_,I,⟨[_,_,_],I,ji hI<|Zk hF hL,ji hI2<|Zk hF2 hL,I,t9⟩,hO⟩
theorem con_i_RV1 {z:Int} (hen:ZV Tryz.prog f) (h:∀ w s A n c,IntS w s A n c x→Calls Tryz.prog f #[.agg #[.bool s,.slice A n c]] w (RV1 w z)):Con Tryz.prog f [Zc x] (Zc z):=by
 refine ⟨hen,fun L w vs hL _ ha=> ?_⟩;obtain ⟨u,rfl,hu⟩:=zal ha;obtain ⟨s,A,n,c,rfl,h1,-⟩:=Ye hu;refine (h w s A n c h1).mono ?_;rintro r w' ⟨s',A',n',c',rfl,hI,hF,hO⟩;exact ⟨_,I,ji hI<|Zk hF hL,hO⟩
theorem zcz {z:Int} (hen:ZV Tryz.prog f) (h:∀ w s t A B n c m d,IntS w s A n c x→IntS w t B m d y→Calls Tryz.prog f #[.agg #[.bool s,.slice A n c],.agg #[.bool t,.slice B m d]] w (RV1 w z)):Con Tryz.prog f [Zc x,Zc y] (Zc z):=by
 refine ⟨hen,fun L w vs hL _ ha=> ?_⟩;obtain ⟨u,v,rfl,hu,hv⟩:=Wa ha;obtain ⟨s,A,n,c,rfl,h1,-⟩:=Ye hu;obtain ⟨t,B,m,d,rfl,h2,-⟩:=Ye hv;refine (h w s t A B n c m d h1 h2).mono ?_;rintro r w' ⟨s',A',n',c',rfl,hI,hF,hO⟩;exact ⟨_,I,ji hI<|Zk hF hL,hO⟩
theorem WR {z:Int} {p:Value} (hen:ZV Tryz.prog f) (h:∀ w,Calls Tryz.prog f #[p] w (RV1 w z)):Con Tryz.prog f [isD p] (Zc z):=by
 refine ⟨hen,fun L w vs hL _ ha=> ?_⟩;obtain ⟨u,rfl,rfl⟩:=zal ha;refine (h w).mono ?_;rintro r w' ⟨s',A',n',c',rfl,hI,hF,hO⟩;exact ⟨_,I,ji hI<|Zk hF hL,hO⟩
theorem con_i_v {p:Value} (hen:ZV Tryz.prog f) (h:∀ w s A n c,IntS w s A n c x→Calls Tryz.prog f #[.agg #[.bool s,.slice A n c]] w fun e w'=>e= .returned p∧Only [] w w'):Con Tryz.prog f [Zc x] (isD p):=by
 refine ⟨hen,fun L w vs hL _ ha=> ?_⟩;obtain ⟨u,rfl,hu⟩:=zal ha;obtain ⟨s,A,n,c,rfl,h1,-⟩:=Ye hu;refine (h w s A n c h1).mono ?_;rintro r w' ⟨rfl,hO⟩;exact ⟨_,I,I,hO⟩
theorem zbK {p:Value} (hen:ZV Tryz.prog f) (h:∀ w s t A B n c m d,IntS w s A n c x→IntS w t B m d y→Calls Tryz.prog f #[.agg #[.bool s,.slice A n c],.agg #[.bool t,.slice B m d]] w fun e w'=>e= .returned p∧Only [] w w'):Con Tryz.prog f [Zc x,Zc y] (isD p):=by
 refine ⟨hen,fun L w vs hL _ ha=> ?_⟩;obtain ⟨u,v,rfl,hu,hv⟩:=Wa ha;obtain ⟨s,A,n,c,rfl,h1,-⟩:=Ye hu;obtain ⟨t,B,m,d,rfl,h2,-⟩:=Ye hv;refine (h w s t A B n c m d h1 h2).mono ?_;rintro r w' ⟨rfl,hO⟩;exact ⟨_,I,I,hO⟩
theorem con_r_v {p:Value} {s:Bool} {b:LN} (hen:ZV Tryz.prog f) (h:∀ w A n c,n=b.length→RV w A (cN .u8 b)→Calls Tryz.prog f #[.agg #[.bool s,.slice A n c]] w fun e w'=>e= .returned p∧Only [] w w'):Con Tryz.prog f [Wv s b] (isD p):=by
 refine ⟨hen,fun L w vs hL _ ha=> ?_⟩;obtain ⟨u,rfl,hu⟩:=zal ha;obtain ⟨A,n,c,rfl,h1,-,h2,-⟩:=rint_out hu;refine (h w A n c h1 h2).mono ?_;rintro r w' ⟨rfl,hO⟩;exact ⟨_,I,I,hO⟩
end
end Sx
theorem df_grow {B:Nat} (hB:0 < B) (X Y k d:Nat) (hd:d=X / B ^ k % B + Nm.bw B X Y (k + 1) * B - Y / B ^ k % B - Nm.bw B X Y k):
  Nm.pad B (k + 1) (Nm.df B X Y<|k + 1)=Nm.pad B k (Nm.df B X Y k) ++ [d]:=by
 obtain ⟨-,h2,h3⟩:=Nm.df_step hB X Y k;rw [h2,← hd,zbh hB (Nm.df_lt hB X Y k).1 (by rw [hd];exact h3)]
theorem zcf (w:World) (A B:Option Addr) (n c m d X Y:Nat) (hn:n≤100000) (hA:LitS w A n c X) (hB:LitS w B m d Y) (hXY:Y≤X):
    Calls Tryz.prog 125 #[.slice A n c,.slice B m d] w fun e w'=>∃ A' n' c',e= .returned (.slice A' n' c')∧LitS w' A' n' c' (X - Y)∧Frs w A'∧Only [] w w':=by
  have Hm:=Jm hB.n_eq
  have hmn:m≤n:=by rw [hA.n_eq,hB.n_eq];exact Nm.len_mono d9 hXY
  go_enter Tryz.func125,Tryz.ntmps125
  go_wp2
  go_loopw [5,6,7,8] (fun out borrow i _ wr=>∃ (k b:Nat) (Ao:Option Addr) (co:Nat) (G:Option Nat),out= .slice Ao k co∧borrow= .int .i64 (b:Int)∧i= .int .i64 (k:Int)∧Hid (b=Nm.bw 256 X Y k)∧k≤n∧OwnS wr 5 Ao co (cN .u8<|Nm.pad 256 k<|Nm.df 256 X Y k) G∧New w G∧Only [] w wr) (fun _ _ i _ _=>n - (intOf i).toNat)
  case atStart=>exact ⟨0,0,none,0,none,rfl,rfl,rfl,by unfold Hid;rw [Nm.bw_zero],by omega,OwnS.none _ _,New.none _,Only.refl _ _⟩
  case round=>
    obtain ⟨k,b,Ao,co,G,rfl,rfl,rfl,hb,hk,hown,hnew,hO⟩:=hrel
    have hb1:=Nm.bw_le 256 X Y k
    rw [← hb.out] at hb1
    have hbI:(b:Int)≤1:=by omega
    have hkm:(k:Int)≤100000:=by omega
    by_cases hlt:k < n
    · have hltI:(k:Int) < (n:Int):=by omega
      obtain ⟨ga,oa,hAe,hga,hca⟩:=(hA.keep hO).at o9
      have c1:=hca k hlt
      have hst:=Jm (Nm.df_step (B:=256) d9 X Y k).1
      have hfl:=Jm (fun d=>df_grow (B:=256) d9 X Y k d)
      rw [← hb.out] at hst hfl
      obtain ⟨b',hb'⟩:∃ b',Hid (b'=Nm.bw 256 X Y (k + 1)):=⟨_,rfl⟩
      rw [← hb'.out] at hst hfl
      have hxl:X / 256 ^ k % 256 < 256:=Nat.mod_lt _ d9
      have hyl:Y / 256 ^ k % 256 < 256:=Nat.mod_lt _ d9
      have hy0:m≤k→Y / 256 ^ k % 256=0:=fun h=>Nm.high_zero d9 (by rw [← Hm.out];exact h)
      by_cases hkm2:k < m
      · have hkmI:(k:Int) < (m:Int):=by omega
        obtain ⟨gb,ob,hBe,hgb,hcb⟩:=(hB.keep hO).at o9
        have c2:=hcb k hkm2
        clear hca hcb hy0
        generalize X / 256 ^ k % 256=x at c1 hst hfl hxl
        generalize Y / 256 ^ k % 256=y at c2 hst hfl hyl
        have hxI:(x:Int) < 256:=by omega
        have hyI:(y:Int) < 256:=by omega
        subst hAe hBe
        by_cases hneg:x < y + b
        · obtain rfl:b'=1:=by rw [hst.out,Jh o9]
          obtain ⟨dd,Hd⟩:∃ d:Nat,Hid (d=x + 1 * 256 - (y) - b):=⟨_,rfl⟩
          have hnegI:(x:Int) - (b:Int) - (y:Int) < 0:=by omega
          have hw0:(x:Int) - (b:Int) - (y:Int) + 256=(dd:Int):=by have:=Hd.out;omega
          have hd1:(dd:Int) < 256:=by have:=Hd.out;omega
          have hgr:=Jm (JY (cN .u8)<|hfl.out dd Hd.out)
          obtain ⟨wj,rfl⟩:∃ wj:World,wj=wr:=⟨_,rfl⟩
          go_wp2_with (at_builtin
                       refine ZU I (.tmp 37) (.tmp 40) 158 5 I (.int .u8 0) 1 Tryz.underlying158 qK I Ao k co (cN .u8<|Nm.pad 256 k<|Nm.df 256 X Y k) G I s9 (hown.keep ((Only.refl [] wj).alloc _) s9) (some ⟨wj.heap.size,0,none⟩) 1 1 (cN .u8 [dd]) I I (RV.new I) YC (by simp;omega) d9 ?_
                       intro A2 c2 w2 G2 hown2 hG2
                       rw [← Zb,← hgr.out] at hown2
                       have hx:=Zz hG2
                       have hO2:=(hO.alloc<|.cells #[.int .u8 (dd:Int)] 5).trans hx hnew.out
                       have hn2:New w G2:=by
                         rcases hG2 with ⟨e,_⟩ | ⟨e,_⟩
                         · rw [e];exact hnew
                         · rw [e];intro g hg;injection hg with hg;have:=hO.size;simp at hg;omega
                       clear hG2 hx hown hnew hO)
          go_roundw
          case rel=>exact ⟨k + 1,1,A2,c2,G2,rfl,rfl,by go_num,hb',by omega,hown2,hn2,hO2⟩
          case measure=>simp [intOf];omega
        · obtain rfl:b'=0:=by rw [hst.out,Jb o9]
          obtain ⟨dd,Hd⟩:∃ d:Nat,Hid (d=x + 0 * 256 - (y) - b):=⟨_,rfl⟩
          have hnegI:0≤(x:Int) - (b:Int) - (y:Int):=by omega
          have hw0:(x:Int) - (b:Int) - (y:Int)=(dd:Int):=by have:=Hd.out;omega
          have hd1:(dd:Int) < 256:=by omega
          have hgr:=Jm (JY (cN .u8)<|hfl.out dd Hd.out)
          obtain ⟨wj,rfl⟩:∃ wj:World,wj=wr:=⟨_,rfl⟩
          go_wp2_with (at_builtin
                       refine ZU I (.tmp 37) (.tmp 40) 158 5 I (.int .u8 0) 1 Tryz.underlying158 qK I Ao k co (cN .u8<|Nm.pad 256 k<|Nm.df 256 X Y k) G I s9 (hown.keep ((Only.refl [] wj).alloc _) s9) (some ⟨wj.heap.size,0,none⟩) 1 1 (cN .u8 [dd]) I I (RV.new I) YC (by simp;omega) d9 ?_
                       intro A2 c2 w2 G2 hown2 hG2
                       rw [← Zb,← hgr.out] at hown2
                       have hx:=Zz hG2
                       have hO2:=(hO.alloc<|.cells #[.int .u8 (dd:Int)] 5).trans hx hnew.out
                       have hn2:New w G2:=by
                         rcases hG2 with ⟨e,_⟩ | ⟨e,_⟩
                         · rw [e];exact hnew
                         · rw [e];intro g hg;injection hg with hg;have:=hO.size;simp at hg;omega
                       clear hG2 hx hown hnew hO)
          go_roundw
          case rel=>exact ⟨k + 1,0,A2,c2,G2,rfl,rfl,by go_num,hb',by omega,hown2,hn2,hO2⟩
          case measure=>simp [intOf];omega
      · have hkmI:(m:Int)≤(k:Int):=by omega
        rw [hy0 o9] at hst hfl
        clear hca hy0 hyl
        generalize X / 256 ^ k % 256=x at c1 hst hfl hxl
        have hxI:(x:Int) < 256:=by omega
        subst hAe
        by_cases hneg:x < b
        · obtain rfl:b'=1:=by rw [hst.out,Jh o9]
          obtain ⟨dd,Hd⟩:∃ d:Nat,Hid (d=x + 1 * 256 - (0) - b):=⟨_,rfl⟩
          have hnegI:(x:Int) - (b:Int) < 0:=by omega
          have hw0:(x:Int) - (b:Int) + 256=(dd:Int):=by have:=Hd.out;omega
          have hd1:(dd:Int) < 256:=by have:=Hd.out;omega
          have hgr:=Jm (JY (cN .u8)<|hfl.out dd Hd.out)
          obtain ⟨wj,rfl⟩:∃ wj:World,wj=wr:=⟨_,rfl⟩
          go_wp2_with (at_builtin
                       refine ZU I (.tmp 37) (.tmp 40) 158 5 I (.int .u8 0) 1 Tryz.underlying158 qK I Ao k co (cN .u8<|Nm.pad 256 k<|Nm.df 256 X Y k) G I s9 (hown.keep ((Only.refl [] wj).alloc _) s9) (some ⟨wj.heap.size,0,none⟩) 1 1 (cN .u8 [dd]) I I (RV.new I) YC (by simp;omega) d9 ?_
                       intro A2 c2 w2 G2 hown2 hG2
                       rw [← Zb,← hgr.out] at hown2
                       have hx:=Zz hG2
                       have hO2:=(hO.alloc<|.cells #[.int .u8 (dd:Int)] 5).trans hx hnew.out
                       have hn2:New w G2:=by
                         rcases hG2 with ⟨e,_⟩ | ⟨e,_⟩
                         · rw [e];exact hnew
                         · rw [e];intro g hg;injection hg with hg;have:=hO.size;simp at hg;omega
                       clear hG2 hx hown hnew hO)
          go_roundw
          case rel=>exact ⟨k + 1,1,A2,c2,G2,rfl,rfl,by go_num,hb',by omega,hown2,hn2,hO2⟩
          case measure=>simp [intOf];omega
        · obtain rfl:b'=0:=by rw [hst.out,Jb o9]
          obtain ⟨dd,Hd⟩:∃ d:Nat,Hid (d=x + 0 * 256 - (0) - b):=⟨_,rfl⟩
          have hnegI:0≤(x:Int) - (b:Int):=by omega
          have hw0:(x:Int) - (b:Int)=(dd:Int):=by have:=Hd.out;omega
          have hd1:(dd:Int) < 256:=by omega
          have hgr:=Jm (JY (cN .u8)<|hfl.out dd Hd.out)
          obtain ⟨wj,rfl⟩:∃ wj:World,wj=wr:=⟨_,rfl⟩
          go_wp2_with (at_builtin
                       refine ZU I (.tmp 37) (.tmp 40) 158 5 I (.int .u8 0) 1 Tryz.underlying158 qK I Ao k co (cN .u8<|Nm.pad 256 k<|Nm.df 256 X Y k) G I s9 (hown.keep ((Only.refl [] wj).alloc _) s9) (some ⟨wj.heap.size,0,none⟩) 1 1 (cN .u8 [dd]) I I (RV.new I) YC (by simp;omega) d9 ?_
                       intro A2 c2 w2 G2 hown2 hG2
                       rw [← Zb,← hgr.out] at hown2
                       have hx:=Zz hG2
                       have hO2:=(hO.alloc<|.cells #[.int .u8 (dd:Int)] 5).trans hx hnew.out
                       have hn2:New w G2:=by
                         rcases hG2 with ⟨e,_⟩ | ⟨e,_⟩
                         · rw [e];exact hnew
                         · rw [e];intro g hg;injection hg with hg;have:=hO.size;simp at hg;omega
                       clear hG2 hx hown hnew hO)
          go_roundw
          case rel=>exact ⟨k + 1,0,A2,c2,G2,rfl,rfl,by go_num,hb',by omega,hown2,hn2,hO2⟩
          case measure=>simp [intOf];omega
    · obtain rfl:k=n:=by omega
      have hlx:Nm.len 256 X≤k:=by rw [hA.n_eq];exact Js _
      rw [Nm.df_all d9 hlx hXY] at hown
      have hF:=Kz hown hnew
      have hR:=hown.reads
      have hle:k≤co:=by have:=hown.le;simpa using this
      have Hlt:=Jm (Nat.lt_of_le_of_lt (Nat.sub_le X Y) hA.lt)
      clear hlx hown
      go_wp2_with (go_at_call 140;refine (qd _ Ao k co (X - Y) hle o9 Hlt.out hR).mono ?_;rintro e w' ⟨m',rfl,rfl,hN⟩)
      go_ret
      exact ⟨_,_,_,I,hN,hF,hO⟩
namespace Sx
section
variable {x y:Int}
def e2:Nat:=200
def e4:Nat:=1000
def b2:Nat:=256 ^ e2
def b4:Nat:=256 ^ e4
theorem b24 {X:Nat} (h:X < b2):X < b4:=Ju h (Nat.pow_le_pow_right d9 d9)
theorem VA {X:Nat} (h:X < zO):X < b2:=Ju h (Nat.pow_le_pow_right d9 d9)
theorem qP {X:Nat} (h:X < zO):X < b4:=b24 (VA h)
theorem b4_add {X Y:Nat} (hX:X < b2) (hY:Y < b2):X + Y < b4:=by
 have h1:256 ^ e2 * 2≤256 ^ e2 * 256:=Nat.mul_le_mul_left _ d9;have h2:256 ^ (e2 + 1)≤256 ^ e4:=Nat.pow_le_pow_right d9 d9;rw [XI] at h2;unfold b2 at hX hY;unfold b4;omega
theorem b2_mul {X Y:Nat} (hX:X < zO) (hY:Y < zO):X * Y < b2:=by
 have h1:X * Y < 256 ^ 64 * 256 ^ 64:=Nat.mul_lt_mul'' hX hY;rw [← Nat.pow_add] at h1;exact Ju h1 (Nat.pow_le_pow_right d9 d9)
theorem n_64 {w:World} {s:Bool} {A:Option Addr} {n c:Nat} {z:Int} (h:IntS w s A n c z) (hz:z.natAbs < b4):n≤100000:=by
 rw [h.by_.n_eq];exact JG ((Nm.len_le (B:=256) d9 e4 _).2 hz) d9
theorem con_add (hx:x.natAbs < zO) (hy:y.natAbs < zO):Con Tryz.prog 136 [Zc x,Zc y] (Zm [Zc<|YM<|x + y,y6<|Yd<|x + y]):=
 KO (enters_of Tryz.func136 k9 rfl) fun w s t A B n c m d h1 h2=>add_any w s t A B n c m d x y hx hy h1 h2
theorem con_sub (hx:x.natAbs < zO) (hy:y.natAbs < zO):Con Tryz.prog 137 [Zc x,Zc y] (Zm [Zc<|YM<|x - y,y6<|Yd<|x - y]):=
 KO (enters_of Tryz.func137 k9 rfl) fun w s t A B n c m d h1 h2=>sub_any w s t A B n c m d x y hx hy h1 h2
theorem zaN (hx:x.natAbs < zO) (hy:y.natAbs < zO):Con Tryz.prog 135 [Zc x,Zc y] (Zm [Zc<|YM<|x * y,y6<|Yd<|x * y]):=
 KO (enters_of Tryz.func135 k9 rfl) fun w s t A B n c m d h1 h2=>mul_any w s t A B n c m d x y hx hy h1 h2
theorem con_neg (hx:x.natAbs < zO):Con Tryz.prog 102 [Zc x] (Zm [Zc<|-x,y6 0]):=
 con_i_RI (enters_of Tryz.func102 k9 rfl) fun w s A n c h=>neg_any w s A n c x hx h
theorem jQ (h1: -9223372036854775808≤x) (h2:x≤9223372036854775807):Con Tryz.prog 62 [y6 x] (Zc x):=
 WR (enters_of Tryz.func62 k9 rfl) fun w=>of_any w x h1 h2
theorem V5 (h1: -9223372036854775808≤x) (h2:x≤9223372036854775807):Con Tryz.prog 69 [y6 x] (Zc x):=
 WR (enters_of Tryz.func69 k9 rfl) fun w=>ofR_any w x h1 h2
theorem Y3 (hx:x.natAbs < zO):Con Tryz.prog 66 [Zc x] (y6 x.sign):=
 con_i_v (enters_of Tryz.func66 k9 rfl) fun w s A n c h=>sign_any w s A n c x hx h
theorem KG (hx:x.natAbs < zO):Con Tryz.prog 100 [Zc x] (yy true):=
 con_i_v (enters_of Tryz.func100 k9 rfl) fun w s A n c h=>Zh w s A n c x h hx
theorem jO (s:Bool) (b:LN):Con Tryz.prog 100 [Wv s b] (yy<|vld s b):=
 con_r_v (enters_of Tryz.func100 k9 rfl) fun w A n c h1 h2=>Wr w s A n c b h1 h2
theorem jN (s:Bool) (b:LN):Con Tryz.prog 120 [Wv s b] (yy<|vld s b):=
 con_r_v (enters_of Tryz.func120 k9 rfl) fun w A n c h1 h2=>zb6 w s A n c b h1 h2
theorem con_same:Con Tryz.prog 55 [Zc x,Zc y] (yy<|decide (x=y)):=
 zbK (enters_of Tryz.func55 k9 rfl) fun w s t A B n c m d h1 h2=>same_any w s t A B n c m d x y h1 h2
theorem con_negR (hx:x.natAbs < b4):Con Tryz.prog 113 [Zc x] (Zc<|-x):=
 con_i_RV1 (enters_of Tryz.func113 k9 rfl) fun w s A n c h=>VS w s A n c x (n_64 h hx) h
theorem yp (hx:x.natAbs < b4) (hy:y.natAbs < b4):Con Tryz.prog 90 [Zc x,Zc y] (Zc<|x * y):=
 zcz (enters_of Tryz.func90 k9 rfl) fun w s t A B n c m d h1 h2=>Wz w s t A B n c m d x y (n_64 h1 hx) (n_64 h2 hy) h1 h2
def zcI (X Y:Nat):Int:=if X < Y then -1 else if X=Y then 0 else 1
def qC (x y:Int):Int:=if x < y then -1 else if x=y then 0 else 1
theorem cmpN_of {X Y:Nat} {r:Int} (h:Cmp X Y r):r=zcI X Y:=by
 unfold zcI;rcases h with ⟨h,rfl⟩ | ⟨h,rfl⟩ | ⟨h,rfl⟩
 ·rw [Jh h]
 ·rw [Jb o9,Jh h]
 ·rw [Jb o9,Jb o9]
theorem cmpZ_of {x y r:Int} (h:CmpZ x y r):r=qC x y:=by
 unfold qC;rcases h with ⟨h,rfl⟩ | ⟨h,rfl⟩ | ⟨h,rfl⟩
 ·rw [Jh h]
 ·rw [Jb o9,Jh h]
 ·rw [Jb o9,Jb o9]
theorem qT (hx:x.natAbs < zO) (hy:y.natAbs < zO):Con Tryz.prog 65 [Zc x,Zc y] (y6<|qC x y):=
 zbK (enters_of Tryz.func65 k9 rfl) fun w s t A B n c m d h1 h2=>(zaR w s t A B n c m d x y hx hy h1 h2).mono fun _ _ ⟨r,he,hr,hO⟩=>⟨by rw [he,cmpZ_of hr.out],hO⟩
end
section
variable {X Y:Nat}
theorem zcM {w:World} {A:Option Addr} {n c X:Nat} (h:LitS w A n c X) (hX:X < b4):n≤100000:=by
 rw [h.n_eq];exact JG ((Nm.len_le (B:=256) d9 e4 _).2 hX) d9
theorem ZX {x:Int} (hx:x.natAbs < b4):Con Tryz.prog 122 [Zc x] (q7 x.natAbs):=by
 refine ⟨enters_of Tryz.func122 k9 I,fun L w vs hL _ ha=> ?_⟩;obtain ⟨u,rfl,hu⟩:=zal ha;obtain ⟨s,A,n,c,rfl,h1,-⟩:=Ye hu;refine (Km w s A n c x (n_64 h1 hx) h1).mono ?_;rintro r w' ⟨A',n',c',rfl,hI,hF,hO⟩;exact ⟨_,I,zbo hI<|Zk hF hL,hO⟩
theorem jm (hX:X < b4) (hY:Y < b4):Con Tryz.prog 124 [q7 X,q7 Y] (q7<|X + Y):=by
 refine ⟨enters_of Tryz.func124 k9 I,fun L w vs hL _ ha=> ?_⟩;obtain ⟨u,v,rfl,hu,hv⟩:=Wa ha;obtain ⟨A,n,c,rfl,h1,-⟩:=qR hu;obtain ⟨B,m,d,rfl,h2,-⟩:=qR hv;refine (plusR_any w A B n c m d X Y (zcM h1 hX) (zcM h2 hY) h1 h2).mono ?_;rintro r w' ⟨A',n',c',rfl,hI,hF,hO⟩;exact ⟨_,I,zbo hI<|Zk hF hL,hO⟩
theorem YO (hX:X < b4) (hY:Y < b4):Con Tryz.prog 121 [q7 X,q7 Y] (y6<|zcI X Y):=by
 refine ⟨enters_of Tryz.func121 k9 I,fun L w vs hL _ ha=> ?_⟩;obtain ⟨u,v,rfl,hu,hv⟩:=Wa ha;obtain ⟨A,n,c,rfl,h1,-⟩:=qR hu;obtain ⟨B,m,d,rfl,h2,-⟩:=qR hv;refine (zcb w A B n c m d X Y (JG (zcM h1 hX) d9) (JG (zcM h2 hY) d9) h1 h2).mono ?_;rintro r w' ⟨r',rfl,hr,hO⟩;exact ⟨_,I,by rw [cmpN_of hr.out];rfl,hO⟩
theorem ZM (neg:Bool) (hX:X < b4):Con Tryz.prog 115 [yy neg,q7 X] (Zc<|sgn neg X):=by
 refine ⟨enters_of Tryz.func115 k9 I,fun L w vs hL _ ha=> ?_⟩;obtain ⟨u,v,rfl,rfl,hv⟩:=Wa ha;obtain ⟨B,m,d,rfl,h2,-⟩:=qR hv;refine (qg w neg B m d X h2.le (JG (zcM h2 hX) d9) h2.lt h2.pad).mono ?_;rintro r w' ⟨s',A',n',c',rfl,hI,hF,hO⟩;exact ⟨_,I,ji hI<|Zk hF hL,hO⟩
end
section
variable {X Y:Nat}
theorem YP (hX:X < b4) (hXY:Y≤X):Con Tryz.prog 125 [q7 X,q7 Y] (q7<|X - Y):=by
 refine ⟨enters_of Tryz.func125 k9 I,fun L w vs hL _ ha=> ?_⟩;obtain ⟨u,v,rfl,hu,hv⟩:=Wa ha;obtain ⟨A,n,c,rfl,h1,-⟩:=qR hu;obtain ⟨B,m,d,rfl,h2,-⟩:=qR hv;refine (zcf w A B n c m d X Y (zcM h1 hX) h1 h2 hXY).mono ?_;rintro r w' ⟨A',n',c',rfl,hI,hF,hO⟩;exact ⟨_,I,zbo hI<|Zk hF hL,hO⟩
theorem con_trimR {n:Nat} (hn:n≤1000000) (hX:X < 256 ^ n):Con Tryz.prog 140 [slD<|cN .u8<|Nm.pad 256 n X] (q7 X):=by
 refine ⟨enters_of Tryz.func140 k9 I,fun L w vs hL _ ha=> ?_⟩;obtain ⟨u,rfl,A,c,rfl,hc,hr,haw⟩:=zal ha
 have hl:(cN .u8<|Nm.pad 256 n X).length=n:=by simp
 rw [hl] at hc haw ⊢;refine (qd w A n c X hc hn hX hr).mono ?_;rintro r w' ⟨m,rfl,rfl,hN⟩;refine ⟨_,I,zbo hN (fun h0=>haw ?_),Only.refl _ _⟩;have h1:=(Nm.len_le (B:=256) d9 n X).2 hX;rw [← hN.n_eq] at h1;omega
theorem zcj:Le (isD<|.slice none 0 0) (q7 0):=by
 unfold q7;rw [Nm.dg_zero];exact jz
theorem WG {X Y:Nat} (h:X=Y):Le (q7 X) (q7 Y):=by subst h;exact zb _
theorem le_lit1 {d:Nat} (h:0 < d) (h2:d < 256):Le (slD [.int .u8 (d:Int)]) (q7 d):=by
 have:Nm.dg 256 d=[d]:=by rw [Nm.dg_pos d9 o9,Nat.div_eq_of_lt h2,Nm.dg_zero,Nat.mod_eq_of_lt h2]
 unfold q7;rw [this];exact zb _
end
end Sx
namespace Sx
theorem cmpZ_s1 (x y:Int) (h:(decide (x < 0) != decide (y < 0))=true) (k:decide (x < 0)=true): -1=qC x y:=by
 rw [k] at h;simp at h k;unfold qC;rw [Jh o9]
theorem cmpZ_s2 (x y:Int) (h:(decide (x < 0) != decide (y < 0))=true) (k:decide (x < 0)=false):1=qC x y:=by
 rw [k] at h;simp at h k;unfold qC;rw [Jb o9,Jb o9]
theorem cmpZ_s3 (x y:Int) (h:(decide (x < 0) != decide (y < 0))=false) (k:decide (x < 0)=true):zcI y.natAbs x.natAbs=qC x y:=by
 rw [k] at h;simp at h k;unfold qC zcI
 by_cases h1:x < y
 ·rw [Jh h1,Jh o9]
 ·rw [Jb h1,Jb o9]
  by_cases h2:x=y
  ·rw [Jh h2,Jh o9]
  ·rw [Jb h2,Jb o9]
theorem cmpZ_s4 (x y:Int) (h:(decide (x < 0) != decide (y < 0))=false) (k:decide (x < 0)=false):zcI x.natAbs y.natAbs=qC x y:=by
 rw [k] at h;simp at h k;unfold qC zcI
 by_cases h1:x < y
 ·rw [Jh h1,Jh o9]
 ·rw [Jb h1,Jb o9]
  by_cases h2:x=y
  ·rw [Jh h2,Jh o9]
  ·rw [Jb h2,Jb o9]
theorem zaS (X Y:Nat) (h:decide (0≤zcI X Y)=true):Y≤X:=by
 unfold zcI at h;simp at h
 split at h
 ·omega
 ·omega
theorem cmpN_lt (X Y:Nat) (h:decide (0≤zcI X Y)=false):X≤Y:=by
 unfold zcI at h;simp at h
 split at h
 ·omega
 ·split at h <;> omega
theorem sum_s1 (x y:Int) (h:(decide (x < 0) == decide (y < 0))=true):sgn (decide (x < 0)) (x.natAbs + y.natAbs)=x + y:=by
 simp at h;unfold sgn
 by_cases hx:x < 0 <;> simp [hx] <;> omega
theorem sum_s2 (x y:Int) (h:(decide (x < 0) == decide (y < 0))=false) (hle:y.natAbs≤x.natAbs):sgn (decide (x < 0)) (x.natAbs - y.natAbs)=x + y:=by
 simp at h;unfold sgn
 by_cases hx:x < 0 <;> simp [hx] at h ⊢ <;> omega
theorem sum_s3 (x y:Int) (h:(decide (x < 0) == decide (y < 0))=false) (hle:x.natAbs≤y.natAbs):sgn (decide (y < 0)) (y.natAbs - x.natAbs)=x + y:=by
 simp at h;unfold sgn
 by_cases hy:y < 0 <;> simp [hy] at h ⊢ <;> omega
theorem W0 {x y:Int} (hx:x.natAbs < b4) (hy:y.natAbs < b4):Con Tryz.prog 89 [Zc x,Zc y] (y6<|qC x y):=by
 refine z1 Tryz.func89 k9 I k9 fun base w0=>(zq (SWl.e2 (S:=[]) (yf I I) fun g2=>(SWl.e2 (S:=[]) (yf I I) fun g3=>(zd I<|ze<|zh<|zq<|za I (zi (n:=0) I k9)<|za I (zz 0 I I I k9 zp)<|za I (zi (n:=0) I k9)<|za I (zz 1 I I I k9 zp)<|za I (zai k9 I I)<|ze<|zD I (fun hb9=> ?_) (fun hb9=> ?_)))))
 ·skip
  refine zh (zq<|za I (zi (n:=0) I k9)<|za I (zz 0 I I I k9 zp)<|ze<|zD I (fun hb11=> ?_) (fun hb11=> ?_))
  ·skip
   refine zq (zd I<|ze<|zE (fn:=Tryz.f89) (fun _ _ h=>h)<|Rs.le (zM I<|zo I) ?_);exact yS (cmpZ_s1 _ _ hb9 hb11)
  ·skip
   refine zx (zg<|zq<|zd I<|ze<|zE (fn:=Tryz.f89) (fun _ _ h=>h)<|Rs.le (zM I<|zo I) ?_);exact yS (cmpZ_s2 _ _ hb9 hb11)
 ·skip
  refine zx (zg<|zh<|zq<|za I (zi (n:=0) I k9)<|za I (zz 0 I I I k9 zp)<|ze<|zD I (fun hb13=> ?_) (fun hb13=> ?_))
  ·skip
   refine zh (z8 [] (.r 0<|.r 2<|.n 1 (.n 3 (.n 4 (.r 5 .fin) .no) .no) .no) k9 k9 (fun d _ _ _ _ h=>by cases d <;> exact h)<|zk I I (zv 1 2 I I k9 I zp)<|zk I I (zv 0 2 I I k9 I zp)<|yg I (zl (ZX (by first | assumption | omega)) I ⟨zb _,t9⟩ I)<|yg I (zl (ZX (by first | assumption | omega)) I ⟨zb _,t9⟩ I)<|yg I (zl (YO (by assumption) (by assumption)) I ⟨zb _,zb _,t9⟩ I)<|yU I I<|yn<|zE (fn:=Tryz.f89) (fun _ _ h=>h)<|Rs.le (zM I<|zo I) ?_)
   exact yS (cmpZ_s3 _ _ hb9 hb13)
  ·skip
   refine zx (zg<|zh<|z8 [] (.r 0<|.r 2<|.n 1 (.n 3 (.n 4 (.r 5 .fin) .no) .no) .no) k9 k9 (fun d _ _ _ _ h=>by cases d <;> exact h)<|zk I I (zv 0 2 I I k9 I zp)<|zk I I (zv 1 2 I I k9 I zp)<|yg I (zl (ZX (by first | assumption | omega)) I ⟨zb _,t9⟩ I)<|yg I (zl (ZX (by first | assumption | omega)) I ⟨zb _,t9⟩ I)<|yg I (zl (YO (by assumption) (by assumption)) I ⟨zb _,zb _,t9⟩ I)<|yU I I<|yn<|zE (fn:=Tryz.f89) (fun _ _ h=>h)<|Rs.le (zM I<|zo I) ?_)
   exact yS (cmpZ_s4 _ _ hb9 hb13)
theorem con_sumR {x y:Int} (hx2:x.natAbs < b2) (hy2:y.natAbs < b2):Con Tryz.prog 92 [Zc x,Zc y] (Zc<|x + y):=by
 have hx:=b24 hx2;have hy:=b24 hy2;have hxy:=b4_add hx2 hy2;have hm1:x.natAbs - y.natAbs < b4:=Nat.lt_of_le_of_lt (Nat.sub_le _ _) hx;have hm2:y.natAbs - x.natAbs < b4:=Nat.lt_of_le_of_lt (Nat.sub_le _ _) hy
 refine z1 Tryz.func92 k9 I k9 fun base w0=>(zq (SWl.e2 (S:=[]) (yf I I) fun g2=>(SWl.e2 (S:=[]) (yf I I) fun g3=>(SWl.e2 (S:=[]) (Ef.alloc (zs:=[.bool false,.slice none 0 0]) k9 I) fun g4=>(ze<|zh<|z8 [] (.r 0<|.r 2<|.n 1 (.n 3 (.r 4<|.r 5 .fin) .no) .no) k9 k9 (fun d _ _ _ _ h=>by cases d <;> exact h)<|zk I I (zv 0 2 I I k9 I zp)<|zk I I (zv 1 2 I I k9 I zp)<|yg I (zl (ZX (by first | assumption | omega)) I ⟨zb _,t9⟩ I)<|yg I (zl (ZX (by first | assumption | omega)) I ⟨zb _,t9⟩ I)<|yU I I<|yU I I<|yn<|zh<|zq<|za I (zi (n:=0) I k9)<|za I (zz 0 I I I k9 zp)<|za I (zi (n:=0) I k9)<|za I (zz 1 I I I k9 zp)<|za I (zbY k9 I I)<|ze<|zD I (fun hb15=> ?_) (fun hb15=> ?_))))))
 ·skip
  refine zh (z8 [g4] (rr [0,1,2,3]<|.n 4 (.n 5 (.e 6 .fin .no) .no) .no) k9 k9 (fun d _ _ _ _ h=>by cases d <;> exact h)<|zk I I (zi (n:=0) I k9)<|zk I I (zz 0 I I I k9<|yw 2 I d9 zp)<|zA I I<|zA I I<|yg I (zl (jm (by assumption) (by assumption)) I ⟨zb _,zb _,t9⟩ I)<|yg I (zl (ZM _ (by assumption)) I ⟨zb _,zb _,t9⟩ I)<|yr I (zw 2 I I I k9 I<|Jc (i:=0) I)<|yn<|zE (fn:=Tryz.f92) (fun _ _ h=>h)<|Rs.le (zM I<|zV 2 I I k9) ?_)
  exact Yp (sum_s1 _ _ hb15)
 ·skip
  refine zx (zg<|zh<|zq<|zc I<|zc I<|zt (S:=[]) (zl (YO (by assumption) (by assumption)) I ⟨zb _,zb _,t9⟩ I)<|za I (YS I I)<|ze<|zD I (fun hb25=> ?_) (fun hb25=> ?_))
  ·have hle:=zaS _ _ hb25
   refine zh (z8 [g4] (rr [0,1,2,3]<|.n 4 (.n 5 (.e 6 .fin .no) .no) .no) k9 k9 (fun d _ _ _ _ h=>by cases d <;> exact h)<|zk I I (zi (n:=0) I k9)<|zk I I (zz 0 I I I k9<|yw 2 I d9 zp)<|zA I I<|zA I I<|yg I (zl (YP (by assumption) (by assumption)) I ⟨zb _,zb _,t9⟩ I)<|yg I (zl (ZM _ (by assumption)) I ⟨zb _,zb _,t9⟩ I)<|yr I (zw 2 I I I k9 I<|Jc (i:=0) I)<|yn<|zE (fn:=Tryz.f92) (fun _ _ h=>h)<|Rs.le (zM I<|zV 2 I I k9) ?_)
   exact Yp (sum_s2 _ _ hb15 hle)
  ·have hle:=cmpN_lt _ _ hb25
   refine zx (zg<|zh<|z8 [g4] (rr [0,1,2,3]<|.n 4 (.n 5 (.e 6 .fin .no) .no) .no) k9 k9 (fun d _ _ _ _ h=>by cases d <;> exact h)<|zk I I (zi (n:=0) I k9)<|zk I I (zz 1 I I I k9<|yw 2 I d9 zp)<|zA I I<|zA I I<|yg I (zl (YP (by assumption) (by assumption)) I ⟨zb _,zb _,t9⟩ I)<|yg I (zl (ZM _ (by assumption)) I ⟨zb _,zb _,t9⟩ I)<|yr I (zw 2 I I I k9 I<|Jc (i:=0) I)<|yn<|zE (fn:=Tryz.f92) (fun _ _ h=>h)<|Rs.le (zM I<|zV 2 I I k9) ?_)
   exact Yp (sum_s3 _ _ hb15 hle)
end Sx
namespace Sx
theorem bldI0:Bld Tryz.prog 41 [] [] [isD<|.bool false,isD<|.slice none 0 0]:=fun L w vs h=>by
 obtain rfl:=all0 h;exact ⟨[.bool false,.slice none 0 0],⟨I,I,t9⟩,fun w'=>by kernel_rfl⟩
theorem zcU {L:LN} {w:World} {d e:D} {v:Value} (h:(Yj [d,e]).R L w v):∃ a b,v= .agg #[a,b]∧d.R L w a∧e.R L w b:=by
 obtain ⟨cs,rfl,h⟩:=h;obtain ⟨a,b,rfl,h1,h2⟩:=Wa h;exact ⟨a,b,I,h1,h2⟩
def zaw:List (Bool × LN)→List D
 | []=>[]
 | r :: rs=>isD (.bool r.1) :: zax r.2 :: zaw rs
theorem Wu:∀ rows,(zaw rows).length=rows.length * 2
 | []=>rfl
 | r :: rs=>by simp [zaw,Wu rs];omega
theorem Ve:∀ (rows:List (Bool × LN)) (k:Nat) (h:k < rows.length),(zaw rows).drop (k * 2)=isD (.bool rows[k].1) :: zax rows[k].2 :: zaw (rows.drop<|k + 1)
 | r :: rs,0,_=>rfl
 | r :: rs,k + 1,h=>by
  have:=Ve rs k (by simpa using h);rw [show (k + 1) * 2=k * 2 + 2 by omega];simpa [zaw] using this
theorem le_pa {ds es:List D} (h:ds=es):Le (paD ds) (paD es):=by subst h;exact zb _
theorem con_gcdB {s t:Bool} {b c:LN} (h:(vld s b && vld t c)=false):Con Tryz.prog 101 [Wv s b,Wv t c] (Zm [Zc 0,y6 2]):=by
 refine z1 Tryz.func101 k9 I k9 fun base w0=>(zq (SWl.e2 (S:=[]) (yf I I) fun g2=>(SWl.e2 (S:=[]) (yf I I) fun g3=>(SWl.e2 (S:=[]) (Ef.alloc (zs:=[.bool false,.slice none 0 0]) k9 I) fun g4=>(zd I<|ze<|zh<|zq<|za I (zv 0 2 I I k9 I zp)<|zt (S:=[]) (zl (jO _ _) I ⟨zb _,t9⟩ I)<|za I (yE I)<|zc I<|yt 13 I (fun hb13=> ?_) (fun hb13=> ?_))))))
 ·skip
  refine zI hb13 (zI hb13<|zI hb13<|za I (zC I hb13 I)<|ze<|yh I I<|zq<|za I (yD I I bldI0)<|zt (S:=[_]) (zw 2 I I I k9 I<|m9 I)<|zd I<|ze<|zE (fn:=Tryz.f101) (fun _ _ h=>h)<|Rs.le (Rs.two I (zV 2 I I k9)<|zo I) ?_);exact yR ⟨le_int0,zb _,t9⟩
 ·skip
  refine zN hb13 (zv 1 2 I I k9 I zp) (y5 (S:=[]) I I hb13 I (zl (jO _ _) I ⟨zb _,t9⟩ I) ?_);rintro _ rfl;refine zN hb13 (yE I) (za I (zG I hb13 I)<|ze<|zD I (fun hb17=> ?_) (fun hb17=> ?_))
  ·skip
   refine zq (za I (yD I I bldI0)<|zt (S:=[_]) (zw 2 I I I k9 I<|m9 I)<|zd I<|ze<|zE (fn:=Tryz.f101) (fun _ _ h=>h)<|Rs.le (Rs.two I (zV 2 I I k9)<|zo I) ?_);exact yR ⟨le_int0,zb _,t9⟩
  ·exact absurd h (by simp_all)
end Sx
namespace Sx
theorem lim_len {x:Int} (h:decide (64 < ((cN .u8 (Nm.dg 256 x.natAbs).reverse).length:Int))=true):YM x=0∧Yd x=7:=by
 refine WE fun hlt=> ?_;have h1:=(Nm.len_le (B:=256) d9 64 x.natAbs).2 hlt;simp [Nm.dg_length] at h;omega
theorem lim_len' {x:Int} (h:decide (64 < ((cN .u8 (Nm.dg 256 x.natAbs).reverse).length:Int))=false):x.natAbs < zO:=by
 refine (Nm.len_le (B:=256) d9 64 x.natAbs).1 ?_;simp [Nm.dg_length] at h;omega
theorem bytes_len {x:Int} {k:Nat} (h:x.natAbs < 256 ^ k):(Nm.dg 256 x.natAbs).reverse.length≤k:=by
 rw [List.length_reverse,Nm.dg_length];exact (Nm.len_le (B:=256) d9 k x.natAbs).2 h
theorem zao {x:Int} (hx:x.natAbs < zO):vld (decide (x < 0)) (Nm.dg 256 x.natAbs).reverse=true:=by
 have hl:=bytes_len (x:=x) (k:=64) hx;unfold vld
 by_cases h0:x=0
 ·subst h0;rw [show (0:Int).natAbs=0 from rfl,Nm.dg_zero]
  rfl
 ·have hne:x.natAbs≠0:=by omega
  have hlen:((Nm.dg 256 x.natAbs).reverse).length=Nm.len 256 x.natAbs:=by rw [List.length_reverse,Nm.dg_length]
  have hpos:0 < Nm.len 256 x.natAbs:=by
   rcases Xk (Nm.len 256 x.natAbs) with h | h
   ·exact absurd ((Nm.len_eq_zero (B:=256) d9).1 h) hne
   ·exact h
  rw [Jb o9]
  have htop:((Nm.dg 256 x.natAbs).reverse).getD 0 0≠0:=by
   obtain ⟨k,hk⟩:∃ k,Nm.len 256 x.natAbs=k + 1:=⟨Nm.len 256 x.natAbs - 1,by omega⟩;rw [VN (i:=k) (r:=0) (by rw [Nm.dg_length];omega),Nm.dg_getD d9];intro h;have h1:=Nm.top_zero (B:=256) (X:=x.natAbs) (k:=k) d9 (by rw [← hk];exact Nm.lt_pow_len d9 _) h;have h2:=(Nm.len_le (B:=256) d9 k _).2 h1;omega
  rw [Jo hl,Jo htop]
  rfl
theorem Y2 {x:Int} (hx:x.natAbs < zO):Con Tryz.prog 120 [Zc x] (yy true):=(jN _ _).mono ⟨zb _,trivial⟩ (zH (by rw [zao hx]))
theorem KF {s:Bool} {b:LN} (h:vld s b=false):Con Tryz.prog 120 [Wv s b] (yy false):=(jN _ _).mono ⟨zb _,trivial⟩ (zH (by rw [h]))
theorem le_v {p q:Value} (h:p=q):Le (isD p) (isD q):=zH h
theorem VX {x y:Int} (h:x=y):LeAll (qJ x) (qJ y):=by subst h;exact yG _
theorem con_signB {s:Bool} {b:LN} (h:vld s b=false):Con Tryz.prog 66 [Wv s b] (y6 0):=by
 refine z1 Tryz.func66 k9 I k9 fun base w0=>(zq (SWl.e2 (S:=[]) (yf I I) fun g1=>(zd I<|ze<|zh<|SW.block<|zq<|za I (zv 0 2 I I k9 I zp)<|zt (S:=[]) (zl (jO _ _) I ⟨zb _,t9⟩ I)<|za I (yE I)<|zc I<|Zx I I (by simp [h]) I I<|Zx I I (by simp [h]) I I<|Zx I I (by simp [h]) I I<|Zx I I (by simp [h]) I I<|za I (zC I (by simp [h]) I)<|zd I<|ze<|yh I I<|zq<|zd I<|ze<|zE (fn:=Tryz.f66) (fun _ _ h=>h)<|Rs.le (zM I<|zo I) ?_)));exact zb _
end Sx
namespace Sx
theorem yX {ds es:List D} (h:ds=es):LeAll ds es:=by subst h;exact yG _
theorem lit_at {X j:Nat} {i:Int} (hi:i=(j:Int)) (hj:j < (cN .u8<|Nm.dg 256 X).length):(cN .u8<|Nm.dg 256 X)[i.toNat]? =some (.int .u8 ((X / 256 ^ j % 256:Nat):Int)):=by
 subst hi;rw [J7,yZ (by simpa using hj),Nm.dg_getD d9]
theorem zaC {k:IntKind} {l m:LN} {o j d:Nat} {v:Int} (ho:o=j) (hv:v=(d:Int)) (hm:l.set j d=m):((cN k l).map isD).set o (isD<|.int k v)=(cN k m).map isD:=by
 subst ho hv hm;rw [← List.map_set,Zd]
theorem zcp {n X Y:Nat} (h:Y=X) (hn:n≤1000000) (hX:X < 256 ^ n):Con Tryz.prog 140 [slD<|cN .u8<|Nm.pad 256 n Y] (q7 X):=by subst h;exact con_trimR hn hX
theorem Kg {X:Nat}:(0 < ((cN .u8<|Nm.dg 256 X).length:Int))↔X≠0:=by
 rw [ye,Nm.dg_length];have:=Nm.len_eq_zero (B:=256) (x:=X) d9;omega
