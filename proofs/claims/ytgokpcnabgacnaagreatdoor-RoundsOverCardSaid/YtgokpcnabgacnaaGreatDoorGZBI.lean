/- ROUNDS: the law's key, schedule, few. WHAT CAME IN: the calls of chapter 44's laws. ROUNDS: the law's sealed. ROUNDS: the examples of the chapter, in  -/
import Derived.Test.YtgokpcnabgacnaaGreatDoorGZBH
set_option maxHeartbeats 8000000
set_option maxRecDepth 100000
namespace Go.Proofs.YtgokpcnabgacnaaGreatDoor
open Go.RowKit
namespace Sx
theorem uidx {z:Int} {n:Nat}:(IntKind.wrap .u64 z).tmod (n:Int)=(((IntKind.wrap .u64 z).toNat % n:Nat):Int):=by
 rw [IntKind.wrap_u64];have h:0≤z % 18446744073709551616:=Int.emod_nonneg _ d9;obtain ⟨m,hm⟩:=Int.eq_ofNat_of_zero_le h;rw [hm]
 rfl
def Yg (n:Int):Nat:=(IntKind.wrap .u64 n).toNat % 3
theorem zaf (n:Int):Yg n < 3:=Nat.mod_lt _ d9
theorem zgl (n:Int):(IntKind.wrap .u64 n).tmod 3=((Yg n:Nat):Int):=uidx (n:=3)
theorem kn_add (n:Int):IntKind.u64.wrap (1 + ((Yg n:Nat):Int))=((1 + Yg n:Nat):Int):=by
 have:=zaf n;rw [IntKind.wrap_u64];omega
theorem kn_u8 (n:Int):IntKind.u8.wrap ((1 + Yg n:Nat):Int)=((UInt8.ofNat<|1 + Yg n).toNat:Int):=by
 have h:=zaf n
 have h3:Yg n=0∨Yg n=1∨Yg n=2:=by omega
 rcases h3 with h | h | h <;> rw [h] <;> rfl
def ZF (n:Int):LB:=List.replicate 32 (UInt8.ofNat<|1 + Yg n)
theorem zh2 (n:Int):(ZF n).length=32:=by simp [ZF]
abbrev k1L:LB:=List.replicate 32 1
abbrev k2L:LB:=List.replicate 32 2
def schA:Rnd.Win:=⟨10,20,25,Env.comB k1L⟩
def schB:Rnd.Win:=⟨20,30,30,Env.comB k2L⟩
def Vx:List Rnd.Win:=[schA,schB]
theorem bldW4 {a b c:Int} {m:LB}:Bld Tryz.prog 26 [0,1,2,3] [iD a,iD b,iD c,bD m] [iD a,iD b,iD c,bD m]:=fun L w vs hv=>by
 match vs,hv with
 | [x,y,z,u],⟨hx,hy,hz,h4,_⟩=>
  cases hx;cases hy;cases hz
  have h4':=h4;obtain ⟨A,cp,rfl,-⟩:=h4;exact ⟨[.int .i64 a,.int .i64 b,.int .i64 c,.slice A _ cp],⟨V,V,V,h4',t9⟩,fun w'=>by kernel_rfl⟩
theorem blsW2 {x y:Rnd.Win}:Bls Tryz.prog 22 2 [0,1] [Zo [iD x.st,iD x.en,iD x.rv,bD x.cm],Zo [iD y.st,iD y.en,iD y.rv,bD y.cm]] ([x,y].flatMap YB):=⟨26,fun L w vs hv=>by
 match vs,hv with
 | [u,v],⟨hu,hv',_⟩=>
 obtain ⟨cs,hue,hc⟩:=hu;obtain ⟨ds,hve,hd⟩:=hv';subst hue hve
 match cs,ds,hc,hd with
 | [a,b,c,d],[a',b',c',d'],hc,hd=>
  obtain ⟨rfl,rfl,rfl,h,-⟩:=hc;obtain ⟨rfl,rfl,rfl,k,-⟩:=hd;have h':=h;have k':=k;obtain ⟨A,cp,rfl,-⟩:=h;obtain ⟨A2,cp2,rfl,-⟩:=k
  exact ⟨[.int .i64 _,.int .i64 _,.int .i64 _,.slice A _ cp,.int .i64 _,.int .i64 _,.int .i64 _,.slice A2 _ cp2],⟨V,V,V,h',V,V,V,k',t9⟩,fun w'=>by kernel_rfl⟩⟩
structure Ac where
 what:Int
 who:Int
 rnd:Int
 ser:Int
 key:Int
 now:Int
 bid:LB
 e:Env.T
def zag (x:Ac):List D:=[iD x.what,iD x.who,iD x.rnd,iD x.ser,iD x.key,iD x.now,bD x.bid,yY x.e.acc,iD x.e.rnd,iD x.e.ser,bD x.e.box,bD x.e.tag]
instance:Row zag 12:=⟨fun _=>rfl,fun _=>by unfold zag;infer_instance,by decide⟩
instance (x:Ac):Ones (zag x):=by unfold zag;infer_instance
def Ac.short (x:Ac):Prop:=x.bid.length≤100∧x.e.acc.length≤100∧x.e.box.length≤300∧x.e.tag.length≤100
def zgL (l:List Ac) (m:Int):Prop:=(∀ x∈l,x.short)∧(l.length:Int)≤m
instance (l:List Ac) (m:Int):Decidable (zgL l m):=by unfold zgL Ac.short;infer_instance
theorem qa (n:Int):Con Tryz.prog 24 [iD n] (bD<|ZF n):=by
 refine YP Tryz.func24 k9 V k9 fun base w0=>(zp<|zf V<|zV<|zd V<|za V ((Wl (kd:= .u64) .i64 V k9 k9))<|za V (Kp V V d9<|zgl n)<|za V (zfY V V<|kn_add n)<|za V (ZU (r:=((UInt8.ofNat<|1 + Yg n).toNat:Int)) .u64 V k9 k9<|kn_u8 n)<|zt (S:=[]) (zY (Y6 (UInt8.ofNat<|1 + Yg n) 32 d9) V ⟨zb _,zb _,t9⟩ V)<|zf V<|ze<|zK (fn:=Tryz.f24) (fun _ _ h=>h)<|Rs.le (Rs.one V<|zj V) ?_);exact zb _
theorem qi:Con Tryz.prog 19 [] (lsD YB Vx):=by
 refine YP Tryz.func19 k9 V k9 fun base w0=>(zp<|zf V<|zV<|zt (S:=[]) (zY (Y6 1 32 d9) V ⟨zb _,zb _,t9⟩ V)<|zt (S:=[]) (zY (zbo k1L s9) V ⟨zb _,t9⟩ V)<|za V (yq V V bldW4)<|zt (S:=[]) (zY (Y6 2 32 d9) V ⟨zb _,zb _,t9⟩ V)<|zt (S:=[]) (zY (zbo k2L s9) V ⟨zb _,t9⟩ V)<|za V (yq V V bldW4)<|zt (S:=[]) (ZL V V (blsW2 (x:=schA) (y:=schB)) V)<|zf V<|ze<|zK (fn:=Tryz.f19) (fun _ _ h=>h)<|Rs.le (Rs.one V<|zj V) ?_);exact zb _
theorem con_few44 (l:List Ac) (m:Int) (hl:l.length≤9223372036854775807):ConN Tryz.prog 18 [lsD zag l,iD m] (yj<|decide (zgL l m)):=by
 refine yO Tryz.func18 k9 V k9 fun base w0=>(zp<|zf V<|ze<|zk<|zp<|zf V<|ze<|zX<|Zw (ι:={i:Nat // i≤l.length∧∀ x∈l.take i,x.short}) (fun i=>zN [(0,lsD zag l),(1,iD m),(5,iD (i.1:Int))] []) (fun i=>l.length - i.1) (⟨0,by simp⟩) ?_ ?_)
 ·exact (sB [] V V)
 ·rintro ⟨i,hi,ha⟩ K0 hK0;dsimp only;refine zk (zp<|zd V<|zd V<|za V (yx (e:=60) V k9)<|za V (yF V V)<|ze<|zJ V (fun hb9=> ?_) (fun hb9=> ?_))
  ·have h9:(i:Int) < (l.length:Int):=oT hb9;refine zr (zn<|zk<|zX<|zk ?_);obtain ⟨x,hx⟩:∃ x,l[i]? =some x:=⟨_,Je o9⟩;refine zi (zd V<|zd V<|za V (yp (e:=60) 12 V V k9 k9 o9 (by simpa using hx))<|za V (yb (n:=6) V k9 (show 6 < 12 by decide))<|za V (ya V V k9 s9)<|za V (ZC (e:=5) V k9)<|za V (Zq V V)<|zd V<|zU 19 V (fun hb19=> ?_) (fun hb19=> ?_))
   ·have h19:¬x.bid.length≤100:=by (have h:=oT hb19;rw [zx] at h;omega)
    refine zq hb19 (zq hb19<|zq hb19<|zq hb19<|zq hb19<|zq hb19<|zq hb19<|zq hb19<|za V (zB V hb19 V)<|zd V<|zq V<|zq V<|zq V<|zq V<|zq V<|zq V<|zq V<|zq V<|za V (zB V V V)<|zd V<|zq V<|zq V<|zq V<|zq V<|zq V<|zq V<|zq V<|zq V<|za V (zB V V V)<|ze<|zW V V<|zp<|zf V<|ze<|zK (fn:=Tryz.f18) (fun _ _ h=>h)<|Rs.le (Rs.one V<|zj V) ?_);exact zZ (by symm;apply Jd;rintro ⟨h,_⟩;have h2:=h x (Jc hx);exact h19 h2.1)
   ·have h19:x.bid.length≤100:=by (have h:=oF hb19;rw [zx] at h;omega)
    refine zy hb19 (zI V) (zy hb19 (zI V)<|zy hb19 (yp (e:=60) 12 V V k9 k9 o9 (by simpa using hx))<|zy hb19 (yb (n:=7) V k9 (show 7 < 12 by decide))<|zy hb19 (yb (n:=0) V k9 (show 0 < 5 by decide))<|zy hb19 (ya V V k9 s9)<|zy hb19 (Kr V k9)<|zy hb19 (Zq V V)<|za V (zv V hb19 V)<|zd V<|zU 29 V (fun hb29=> ?_) (fun hb29=> ?_))
    ·have h29:¬x.e.acc.length≤100:=by (have h:=oT hb29;omega)
     refine zq hb29 (zq hb29<|zq hb29<|zq hb29<|zq hb29<|zq hb29<|zq hb29<|zq hb29<|za V (zB V hb29 V)<|zd V<|zq V<|zq V<|zq V<|zq V<|zq V<|zq V<|zq V<|zq V<|za V (zB V V V)<|ze<|zW V V<|zp<|zf V<|ze<|zK (fn:=Tryz.f18) (fun _ _ h=>h)<|Rs.le (Rs.one V<|zj V) ?_);exact zZ (by symm;apply Jd;rintro ⟨h,_⟩;have h2:=h x (Jc hx);exact h29 h2.2.1)
    ·have h29:x.e.acc.length≤100:=by (have h:=oF hb29;omega)
     refine zy hb29 (zI V) (zy hb29 (zI V)<|zy hb29 (yp (e:=60) 12 V V k9 k9 o9 (by simpa using hx))<|zy hb29 (yb (n:=7) V k9 (show 7 < 12 by decide))<|zy hb29 (yb (n:=3) V k9 (show 3 < 5 by decide))<|zy hb29 (ya V V k9 s9)<|zy hb29 (ZC (e:=5) V k9)<|zy hb29 (Zq V V)<|za V (zv V hb29 V)<|zd V<|zU 39 V (fun hb39=> ?_) (fun hb39=> ?_))
     ·have h39:¬x.e.box.length≤300:=by (have h:=oT hb39;rw [zx] at h;omega)
      refine zq hb39 (zq hb39<|zq hb39<|zq hb39<|zq hb39<|zq hb39<|zq hb39<|zq hb39<|za V (zB V hb39 V)<|ze<|zW V V<|zp<|zf V<|ze<|zK (fn:=Tryz.f18) (fun _ _ h=>h)<|Rs.le (Rs.one V<|zj V) ?_);exact zZ (by symm;apply Jd;rintro ⟨h,_⟩;have h2:=h x (Jc hx);exact h39 h2.2.2.1)
     ·have h39:x.e.box.length≤300:=by (have h:=oF hb39;rw [zx] at h;omega)
      refine zy hb39 (zI V) (zy hb39 (zI V)<|zy hb39 (yp (e:=60) 12 V V k9 k9 o9 (by simpa using hx))<|zy hb39 (yb (n:=7) V k9 (show 7 < 12 by decide))<|zy hb39 (yb (n:=4) V k9 (show 4 < 5 by decide))<|zy hb39 (ya V V k9 s9)<|zy hb39 (ZC (e:=5) V k9)<|zy hb39 (Zq V V)<|za V (zv V hb39 V)<|ze<|zJ V (fun hb48=> ?_) (fun hb48=> ?_))
      ·have h48:¬x.e.tag.length≤100:=by (have h:=oT hb48;rw [zx] at h;omega)
       refine zp (zf V<|ze<|zK (fn:=Tryz.f18) (fun _ _ h=>h)<|Rs.le (Rs.one V<|zj V) ?_);exact zZ (by symm;apply Jd;rintro ⟨h,_⟩;have h2:=h x (Jc hx);exact h48 h2.2.2.2)
      ·have h48:x.e.tag.length≤100:=by (have h:=oF hb48;rw [zx] at h;omega)
       exact zr (yc<|zn<|zi<|zd V<|za V (yC V V ⟨by omega,by omega⟩)<|zf V<|zP (fun a w hh=>hK0 (⟨i + 1,by omega,fun y hy=>by rw [yr hx] at hy;rcases Jf.1 hy with hy | hy;exact ha y hy;rw [Ja.1 hy];exact ⟨h19,h29,h39,h48⟩⟩) (by simp only;omega) a w<|hh.sub<|sB [] V V))
  ·have h9:¬(i:Int) < (l.length:Int):=oF hb9;refine yZ ?_
   repeat (first | refine Ze ?_ | refine Zf d9 ?_)
   refine Zn (zn<|zp<|zd V<|za V (yx (e:=60) V k9)<|zd V<|za V (YR V V)<|zf V<|ze<|zK (fn:=Tryz.f18) (fun _ _ h=>h)<|Rs.le (Rs.one V<|zj V) ?_);exact zZ (by rw [JW];exact ⟨fun h=>⟨fun x hx=>ha x (by rw [Ji o9];exact hx),h⟩,fun h=>h.2⟩)
end Sx
end Go.Proofs.YtgokpcnabgacnaaGreatDoor
namespace Go.Proofs.YtgokpcnabgacnaaGreatDoor
open Go.ChangeShapes Go.WideShapes Go.ChangeAt Go.RowKit
namespace Sx
section
instance:Inhabited Ac:=⟨⟨0,0,0,0,0,0,[],Env.zero⟩⟩
theorem came_ac:Came Tryz.prog 60 zag (fun _=>True):=fun H enc W fuel cs x h=>by
 obtain ⟨hl,hf⟩:=Vp Tryz.underlying60 h;have hl':cs.length=12:=hl.trans k9;obtain ⟨_,_,h0⟩:=hf 0 _ rfl;obtain ⟨_,_,h1⟩:=hf 1 _ rfl;obtain ⟨_,_,h2⟩:=hf 2 _ rfl;obtain ⟨_,_,h3⟩:=hf 3 _ rfl;obtain ⟨_,_,h4⟩:=hf 4 _ rfl;obtain ⟨_,_,h5⟩:=hf 5 _ rfl;obtain ⟨_,_,h6⟩:=hf 6 _ rfl;obtain ⟨_,_,h7⟩:=hf 7 _ rfl;obtain ⟨a,-,a0⟩:=qV Tryz.underlying3 _ _ _ _ _ _ h0;obtain ⟨b,-,a1⟩:=qV Tryz.underlying3 _ _ _ _ _ _ h1;obtain ⟨c,-,a2⟩:=qV Tryz.underlying3 _ _ _ _ _ _ h2;obtain ⟨d,-,a3⟩:=qV Tryz.underlying3 _ _ _ _ _ _ h3;obtain ⟨e,-,a4⟩:=qV Tryz.underlying3 _ _ _ _ _ _ h4;obtain ⟨f,-,a5⟩:=qV Tryz.underlying3 _ _ _ _ _ _ h5;obtain ⟨g,-,a6⟩:=K7 Tryz.underlying24 Tryz.underlying5 k9 _ _ _ _ _ _ h6;obtain ⟨m,-,a7⟩:=came_env _ _ _ _ _ _ h7;exact ⟨⟨a,b,c,d,e,f,g,m⟩,t9,Wd [[iD a],[iD b],[iD c],[iD d],[iD e],[iD f],[bD g],yX m] cs 0 ⟨a0,a1,a2,a3,a4,a5,a6,a7,t9⟩ (by simpa [yX] using hl')⟩
theorem came_acs:Came Tryz.prog 52 (fun l:List Ac=>[lsD zag l]) (fun l=>l.length≤maxLen∧∀ e∈l,True):=WK Tryz.underlying52 k9 d9 came_ac
end
section
def qO (z:Int):UInt8:=UInt8.ofNat (z % 256).toNat
theorem b8_w (z:Int):IntKind.u8.wrap z=((qO z).toNat:Int):=by
 have h0:0≤z % 256:=Int.emod_nonneg _ d9;have h1:z % 256 < 256:=Int.emod_lt_of_pos _ d9
 have h2:IntKind.u8.wrap z=z % 256:=by simp [IntKind.wrap,IntKind.signed,IntKind.bits]
 rw [h2];unfold qO;have h3:(UInt8.ofNat (z % 256).toNat).toNat=(z % 256).toNat % 256:=rfl;rw [h3];omega
def Rnd.sld (l:List Acc.T) (nm:LB) (rnd ser:Int) (key bid:LB):Env.T:=Env.slT l nm rnd ser key (List.replicate 16<|qO ser) bid
theorem zhh (gb:Nat) (s:Bst) (l:List Acc.T) (nm:LB) (rnd ser:Int) (key bid:LB) (hf:Acc.Fine l):ConR Tryz.prog 23 [.c gb [isD<|.map<|s.M.map Prod.fst,isD<|.slice s.n.A (Acc.nm l).length s.n.c,isD<|.map<|s.M.map Prod.snd],.r s.n.F<|yP 9 1 YM s.n.A s.n.c<|Acc.nm l,.r s.F1<|Zc (s.M.map Prod.fst) Zi (Acc.nm l)<|acD l,.r s.F2<|Zc (s.M.map Prod.snd) Zy (Acc.seats l)<|seD l] [pA gb,yY nm,iD rnd,iD ser,bD key,bD bid] (fun _:Unit=>[.c gb [isD<|.map<|s.M.map Prod.fst,isD<|.slice s.n.A (Acc.nm l).length s.n.c,isD<|.map<|s.M.map Prod.snd],.r s.n.F<|yP 9 1 YM s.n.A s.n.c<|Acc.nm l,.r s.F1<|Zc (s.M.map Prod.fst) Zi (Acc.nm l)<|acD l,.r s.F2<|Zc (s.M.map Prod.snd) Zy (Acc.seats l)<|seD l]) (fun _:Unit=>Zo<|yX<|Rnd.sld l nm rnd ser key bid):=by
 refine yg Tryz.func23 k9 V k9 fun base w0=>(zp (SWl.e2 (S:=[]) (zM (zs:=[.string ⟨#[]⟩,.int .i64 0,.int .i64 0,.slice none 0 0,.slice none 0 0]) k9 V) fun g12=>(zV<|zd V<|zd V<|zd V<|zd V<|zd V<|zd V<|za V (ZU (r:=((qO ser).toNat:Int)) .i64 V k9 k9<|b8_w ser)<|zt (S:=[]) (zY (Y6 (qO ser) 16 d9) V ⟨zb _,zb _,t9⟩ V)<|zd V (SWl.e2 (zC [0,1,2,3] (con_sealE gb s l nm rnd ser key (List.replicate 16<|qO ser) bid hf) V ⟨zb _,zb _,zb _,zb _,zb _,zb _,zb _,t9⟩ d9 (sX V) (fun _ h=>h) V) fun _=>(zd V<|za V (zm V V)<|za V (zm V V) (SWl.e2 (S:=[]) (zM (zs:=[.string ⟨#[]⟩,.int .i64 0,.int .i64 0,.slice none 0 0,.slice none 0 0]) k9 V) fun g13=>(zt (S:=[_]) (zw 5 V V V k9 V<|m9 V)<|zf V<|ze<|zk ?_)))))));obtain ⟨x,hx⟩:∃ x,x=Rnd.sld l nm rnd ser key bid:=⟨_,rfl⟩;refine zO (σ':=zN [(12,_),(13,_)] [.c gb [isD<|.map<|s.M.map Prod.fst,isD<|.slice s.n.A (Acc.nm l).length s.n.c,isD<|.map<|s.M.map Prod.snd],.r s.n.F<|yP 9 1 YM s.n.A s.n.c<|Acc.nm l,.r s.F1<|Zc (s.M.map Prod.fst) Zi (Acc.nm l)<|acD l,.r s.F2<|Zc (s.M.map Prod.snd) Zy (Acc.seats l)<|seD l,.c g12 [yY [],iD 0,iD 0,isD<|.slice none 0 0,isD<|.slice none 0 0],.c g13 [yY x.acc,iD x.rnd,iD x.ser,bD x.box,bD x.tag]]) (⟨⟨_,V,(sT V)⟩,[1,2,3,4,0,5],by decide,⟨la rfl,⟨lR rfl,⟨lR rfl,⟨lR rfl,⟨la rfl,⟨⟨_,rfl,(by rw [hx];exact yl _)⟩,trivial⟩⟩⟩⟩⟩⟩⟩) (zi<|za V (zA 5 5 V V k9 V zh)<|zt (S:=[_]) (zw 4 V V V k9 V<|m9 V)<|ze<|zQ (fn:=Tryz.f23) (()) [0,1,2,3] (fun _ _ h=>h) (Rs.le (Rs.one V<|zS 4 V V k9) ?_) d9<|sX V)
 rw [← hx];exact zb _
theorem con_kinds (es:List Led.Ent) (ks:List Int) (hl:es.length≤100000) (hb:∀ e∈es,e.bytes.length≤1000000):ConN Tryz.prog 47 [ledD es,lsD encI ks] (yj<|decide ((es.map Led.Ent.kind)=ks)):=by
 refine yO Tryz.func47 k9 V k9 fun base w0=>(zp<|zf V<|ze<|zk<|zp<|zd V<|zt (S:=[]) (zD [] (con_len es) V ⟨(zo<|zb _),t9⟩ V)<|zd V<|za V (yx (e:=3) V k9)<|za V (ye V V)<|ze<|zJ V (fun hb12=> ?_) (fun hb12=> ?_))
 ·have h12:¬es.length=ks.length:=by (have h:=hb12;simp at h;omega)
  refine zp (zf V<|ze<|zK (fn:=Tryz.f47) (fun _ _ h=>h)<|Rs.le (Rs.one V<|zj V) ?_);exact zZ (by symm;apply Jd;intro h;exact h12 (by rw [← h,JO]))
 ·have h12:es.length=ks.length:=by (have h:=hb12;simp at h;omega)
  refine zr (zn<|zk<|zp<|zf V<|ze<|zX<|Zw (ι:={i:Nat // i≤ks.length∧∀ j,j < i→(es.map Led.Ent.kind)[j]? =ks[j]?}) (fun i=>zN [(0,ledD es),(1,lsD encI ks),(5,iD (i.1:Int))] []) (fun i=>ks.length - i.1) (⟨0,JC _,fun j hj=>absurd hj<|Nat.not_lt_zero _⟩) ?_ ?_)
  ·exact (sB [] V V)
  ·rintro ⟨i,hi,hq⟩ K0 hK0;dsimp only at hi hq ⊢;refine zk (zp<|zd V<|zd V<|za V (yx (e:=3) V k9)<|za V (yF V V)<|ze<|zJ V (fun hb16=> ?_) (fun hb16=> ?_))
   ·have h16:(i:Int) < (ks.length:Int):=oT hb16;refine zr (zn<|zk<|zX<|zk ?_);obtain ⟨e,he⟩:∃ e,es[i]? =some e:=⟨_,Je o9⟩;obtain ⟨k,hk⟩:∃ k,ks[i]? =some k:=⟨_,Je o9⟩
    refine zi (zd V<|zd V<|zt (S:=[]) (zD [] (con_at es i e he<|hb e<|Jc he) V ⟨(zo<|zb _),(zo<|zb _),t9⟩ V)<|zd V<|za V (zm V V)<|za V (zm V V) (SWl.e2 (S:=[]) (zM (zs:=[.int .i64 0,.slice none 0 0]) k9 V) fun g6=>(zt (S:=[_]) (zw 0 V V V k9 V<|m9 V)<|zf V<|ze<|zk<|yh [] (rr [0,1,2,3,4,5,6,7,8,9,10] .fin) k9 k9 (fun d _ _ _ _ h=>by cases d <;> exact h)<|zL V V<|zl V V (ye V V)<|zL V V<|zG V V V s9 V V (zc (n:=0) V k9)<|zG V V V s9 V V (zg 0 V V V k9 zh)<|zG V V V s9 V V (zI V)<|zG V V V s9 V V (zI V)<|zG V V V s9 V V (yp (e:=3) 1 V V k9 k9 o9 (by simpa using hk))<|zG V V V s9 V V (ya V V k9 s9)<|zG V V V s9 V V (ye V V)<|zl V V (zv V s9 V)<|yI<|zJ V (fun hb35=> ?_) (fun hb35=> ?_))))
    ·have h35:¬e.kind=k:=by simpa using hb35
     refine zp (zf V<|ze<|zK (fn:=Tryz.f47) (fun _ _ h=>h)<|Rs.le (Rs.one V<|zj V) ?_);exact zZ (by symm;apply Jd;intro h;rw [← h,JJ,he] at hk;exact h35<|JN hk)
    ·have h35:e.kind=k:=by simpa using hb35
     exact zr (yc<|zn<|zi<|zd V<|za V (yC V V ⟨by omega,by omega⟩)<|zf V<|zP (fun a w hh=>hK0 (⟨i + 1,by omega,fun j hj=>by (rcases Nat.lt_succ_iff_lt_or_eq.1 hj with h | h;exact hq j h;(rw [h,List.getElem?_map,he,hk,Option.map_some,h35]))⟩) (by dsimp only;omega) a w<|hh.sub<|⟨⟨_,V,⟨lq V,⟨lq V,⟨⟨_,V,zF s9⟩,t9⟩⟩⟩⟩,[],by decide,trivial⟩))
   ·have h16:¬(i:Int) < (ks.length:Int):=oF hb16;refine yZ ?_
    repeat (first | refine Ze ?_ | refine Zf d9 ?_)
    refine Zn (zn<|zp<|zf V<|ze<|zK (fn:=Tryz.f47) (fun _ _ h=>h)<|Rs.le (Rs.one V<|zj V) ?_);exact zZ (by symm;apply Jo;exact zgq (by rw [JO];exact h12) (by rw [JO];omega) hq)
end
section
theorem hFind:Acc.find hL nmA=some hA:=rfl
structure KE (x:Env.T) (n:Int) (b:LB):Prop where
 ok:Env.ok x
 aut:Env.autE hL x=0
 acc:x.acc=nmA
 rnd:x.rnd=0
 ser:x.ser=n
 op1:Env.opE hL x k1L=0
 op2:Env.opB hL x k1L=b
theorem ke {n:Int} {b:LB} (hn:0≤n∧n≤1073741824) (hb:b.length≤4096):KE (Rnd.sld hL nmA 0 n k1L b) n b:=by
 have h:=Env.sld (key:=k1L) (nonce:=List.replicate 16<|qO n) (bid:=b) jp hFind (show (0:Int)≤0∧(0:Int)≤1048576 by decide) hn s9 s9 hb;have ho:=Env.op_sld h s9 s9 hb;have he:Rnd.sld hL nmA 0 n k1L b=Env.mk hL nmA 0 n k1L (List.replicate 16<|qO n) b:=h.eq;rw [he];exact ⟨h.ok,h.aut,V,V,V,ho.1,ho.2⟩
theorem zgz {k:LB} (h:k.length=32):(Env.comB k).length=32:=by
 unfold Env.comB Env.comH;rw [Jh h];simp
theorem Ku:Rnd.ok Vx:=by
 have h1:(Env.comB k1L).length=32:=zgz s9;have h2:(Env.comB k2L).length=32:=zgz s9;exact ⟨⟨by decide,by decide⟩,⟨by decide,by decide,by decide,by decide,h1⟩,⟨by decide,by decide,by decide,by decide,h2⟩,t9⟩
theorem com_ne:Env.comB k2L≠Env.comB k1L:=by decide +kernel
abbrev kS0:Rnd.S:=Rnd.start hL Vx
def kS1 (x:Env.T):Rnd.S:=⟨hL,Vx,[x],[[],[]],10,[⟨1,Rnd.subP x 10⟩]⟩
def kS2 (x y:Env.T):Rnd.S:=⟨hL,Vx,[y],[[],[]],19,[⟨1,Rnd.subP x 10⟩,⟨1,Rnd.subP y 19⟩]⟩
def kS3 (x y:Env.T):Rnd.S:=⟨hL,Vx,[y],[k1L,[]],25,[⟨1,Rnd.subP x 10⟩,⟨1,Rnd.subP y 19⟩,⟨2,Rnd.revP 0 k1L 25⟩]⟩
theorem kGood0:Rnd.Good kS0:=Rnd.good_start jp Ku
section
variable {x y:Env.T}{b c:List UInt8}(hx:KE x 1 b)(hy:KE y 2 c)
include hx
theorem kSub1:Rnd.subE kS0 x 9=8:=by
 unfold Rnd.subE;rw [Jb<|Jj ⟨hx.ok,by decide⟩,Jb<|Jj ⟨by decide,by rw [hx.rnd];decide⟩,hx.rnd,Jh d9]
theorem kSub2:Rnd.subE kS0 x 10=0:=by
 unfold Rnd.subE;rw [Jb<|Jj ⟨hx.ok,by decide⟩,Jb<|Jj ⟨by decide,by rw [hx.rnd];decide⟩,hx.rnd,Jb d9,Jb (show ¬Env.autE kS0.bk x≠0 from Jj hx.aut),Jb (fun ⟨z,hz,_⟩=>by cases hz),Jb d9]
theorem kSt1:Rnd.subS kS0 x 9=kS0:=Jb (by rw [kSub1 hx];decide)
theorem kSt2:Rnd.subS kS0 x 10=kS1 x:=by rw [Rnd.subS,Jh<|kSub2 hx];rfl
theorem kSub3:Rnd.subE (kS1 x) x 11=11:=by
 unfold Rnd.subE;rw [Jb<|Jj ⟨hx.ok,by decide⟩,Jb<|Jj ⟨by show (10:Int)≤11;decide,by rw [hx.rnd];exact (by decide:(0:Int)≤0∧(0:Int) < 2)⟩,hx.rnd,Jb (by show ¬Rnd.st kS0 _ 11≠2;decide),Jb (show ¬Env.autE (kS1 x).bk x≠0 from Jj hx.aut),Jh ⟨x,m9 rfl,⟨rfl,rfl⟩,Int.le_refl _⟩]
theorem kSt3:Rnd.subS (kS1 x) x 11=kS1 x:=Jb (by rw [kSub3 hx];decide)
include hy
theorem kSame:Rnd.same x y:=⟨hx.acc.trans hy.acc.symm,hx.rnd.trans hy.rnd.symm⟩
theorem kSub4:Rnd.subE (kS1 x) y 19=0:=by
 unfold Rnd.subE;rw [Jb<|Jj ⟨hy.ok,by decide⟩,Jb<|Jj ⟨by show (10:Int)≤19;decide,by rw [hy.rnd];exact (by decide:(0:Int)≤0∧(0:Int) < 2)⟩,hy.rnd,Jb (by show ¬Rnd.st kS0 _ 19≠2;decide),Jb (show ¬Env.autE (kS1 x).bk y≠0 from Jj hy.aut),Jb,Jb (by show ¬4096≤1;decide)];rintro ⟨z,hz,_,h⟩;rw [Ja.1 hz,hx.ser,hy.ser] at h;omega
theorem kPut:Rnd.put [x] y=[y]:=by
 unfold Rnd.put;rw [List.filter_cons_of_neg (by simpa using kSame hx hy)]
 rfl
theorem kSt4:Rnd.subS (kS1 x) y 19=kS2 x y:=by
 rw [Rnd.subS,Jh<|kSub4 hx hy];show (⟨hL,Vx,Rnd.put [x] y,[[],[]],19,_⟩:Rnd.S)=_;rw [kPut hx hy]
 rfl
omit hx in
theorem kSub5:Rnd.subE (kS2 x y) y 20=8:=by
 unfold Rnd.subE;rw [Jb<|Jj ⟨hy.ok,by decide⟩,Jb<|Jj ⟨by show (19:Int)≤20;decide,by rw [hy.rnd];exact (by decide:(0:Int)≤0∧(0:Int) < 2)⟩,hy.rnd,Jh (by show Rnd.st kS0 _ 20≠2;decide)]
omit hx in
theorem kSt5:Rnd.subS (kS2 x y) y 20=kS2 x y:=Jb (by rw [kSub5 hy];decide)
omit hx hy in
theorem kAt1:Rnd.atS (kS2 x y) 0 19=2∧Rnd.atE (kS2 x y) 0 19=0:=⟨by show Rnd.atS kS0 0 19=2;decide,by show Rnd.atE kS0 0 19=0;decide⟩
omit hx hy in
theorem kAt2:Rnd.atS (kS2 x y) 0 20=3∧Rnd.atE (kS2 x y) 0 20=0:=⟨by show Rnd.atS kS0 0 20=3;decide,by show Rnd.atE kS0 0 20=0;decide⟩
omit hx hy in
theorem kBids1:Zp (kS2 x y) 0=8∧ZJ (kS2 x y) 0=[]:=by
 have h:Zp (kS2 x y) 0=8:=by show Zp kS0 0=8;decide
 exact ⟨h,qC (by rw [h];decide)⟩
omit hx hy in
theorem kRev1:Rnd.revE (kS2 x y) 0 k1L 24=8:=by
 unfold Rnd.revE;rw [Jb<|Jj ⟨by simp,by decide⟩,Jb<|Jj ⟨by show (19:Int)≤24;decide,(by decide:(0:Int)≤0∧(0:Int) < 2)⟩,Jh (fun h=>absurd h.1 (by show ¬(25:Int)≤24;decide))]
omit hx hy in
theorem kRev2:Rnd.revE (kS2 x y) 0 k2L 25=10:=by
 unfold Rnd.revE;rw [Jb<|Jj ⟨by simp,by decide⟩,Jb<|Jj ⟨by show (19:Int)≤25;decide,(by decide:(0:Int)≤0∧(0:Int) < 2)⟩,Jb<|Jj ⟨by show (25:Int)≤25;decide,rfl⟩,Jh (show Env.comB k2L≠(Rnd.winAt (kS2 x y).ws<|Int.toNat 0).cm from com_ne)]
omit hx hy in
theorem kRev3:Rnd.revE (kS2 x y) 0 k1L 25=0:=by
 unfold Rnd.revE;rw [Jb<|Jj ⟨by simp,by decide⟩,Jb<|Jj ⟨by show (19:Int)≤25;decide,(by decide:(0:Int)≤0∧(0:Int) < 2)⟩,Jb<|Jj ⟨by show (25:Int)≤25;decide,rfl⟩,Jb (show ¬Env.comB k1L≠(Rnd.winAt (kS2 x y).ws<|Int.toNat 0).cm from Jj rfl),Jb (by show ¬4096≤2;decide)]
omit hx hy in
theorem kRv1:Rnd.revS (kS2 x y) 0 k1L 24=kS2 x y:=Jb (by rw [kRev1];decide)
omit hx hy in
theorem kRv2:Rnd.revS (kS2 x y) 0 k2L 25=kS2 x y:=Jb (by rw [kRev2];decide)
omit hx hy in
theorem kRv3:Rnd.revS (kS2 x y) 0 k1L 25=kS3 x y:=by rw [Rnd.revS,Jh kRev3];rfl
omit hx hy in
theorem kRev4:Rnd.revE (kS3 x y) 0 k1L 26=8:=by
 unfold Rnd.revE;rw [Jb<|Jj ⟨by simp,by decide⟩,Jb<|Jj ⟨by show (25:Int)≤26;decide,(by decide:(0:Int)≤0∧(0:Int) < 2)⟩,Jh (fun h=>absurd h.2 (by show ¬k1L=[];decide))]
omit hx hy in
theorem kRv4:Rnd.revS (kS3 x y) 0 k1L 26=kS3 x y:=Jb (by rw [kRev4];decide)
omit hx in
theorem kOf2:yU (kS3 x y) 0=[y]:=by
 have h0:Rnd.has (kS3 x y) 0:=(by decide:(0:Int)≤0∧(0:Int) < 2);rw [yU,Jh h0]
 have g1:Rnd.getE [y] 0 nmA=some y:=by
  unfold Rnd.getE;rw [List.find?_cons_of_pos (by simp [hy.rnd,hy.acc])]
 have g2:Rnd.getE [y] 0 nmB=none:=by
  unfold Rnd.getE;rw [List.find?_cons_of_neg (by rw [hy.rnd,hy.acc];decide)]
  rfl
 have g3:Rnd.getE [y] 0 nmC=none:=by
  unfold Rnd.getE;rw [List.find?_cons_of_neg (by rw [hy.rnd,hy.acc];decide)]
  rfl
 show [nmA,nmB,nmC].filterMap (Rnd.getE [y] 0)=[y];rw [List.filterMap_cons_some g1,List.filterMap_cons_none g2,List.filterMap_cons_none g3]
 rfl
omit hx in
theorem kBids2:Zp (kS3 x y) 0=0∧ZJ (kS3 x y) 0=[⟨nmA,2,c,false⟩]:=by
 have h:Zp (kS3 x y) 0=0:=by
  unfold Zp;rw [Jb (show ¬ ¬Rnd.has (kS3 x y) 0 from Jj (by decide:(0:Int)≤0∧(0:Int) < 2)),Jb (by show ¬k1L=[];decide)]
 refine ⟨h,?_⟩;rw [ZJ,Jh h,Za,kOf2 hy];show [qL hL k1L y]=_;unfold qL;rw [hy.acc,hy.ser,hy.op1,hy.op2]
 rfl
omit hx hy in
theorem kKinds:(kS3 x y).en.map Led.Ent.kind=[1,1,2]:=rfl
end
end
section
theorem Yq {gb:Nat} {l:List Acc.T} {F:LN} (nm:LB) (rnd ser:Int) (key bid:LB) (hf:Acc.Fine l):ConR Tryz.prog 23 [.r F<|bkP gb l] [pA gb,yY nm,iD rnd,iD ser,bD key,bD bid] (fun F':LN=>[.r F'<|bkP gb l]) (fun _=>Zo<|yX<|Rnd.sld l nm rnd ser key bid):=
 zdy fun s=>zhh gb s l nm rnd ser key bid hf
theorem ji {gr:Nat} {F:LN} {s s':Rnd.S} {e:Env.T} {now E:Int} (hg:Rnd.Good s) (hs:Rnd.subS s e now=s') (hE:Rnd.subE s e now=E):ConR Tryz.prog 22 [.r F<|Yj gr s] [pA gr,Zo [yY e.acc,iD e.rnd,iD e.ser,bD e.box,bD e.tag],iD now] (fun F':LN=>[.r F'<|Yj gr s']) (fun _=>iD E):=by
 subst hs hE;exact zcu gr F s e now hg
theorem Kg {gr:Nat} {F:LN} {s s':Rnd.S} {r:Int} {key:LB} {now E:Int} (hg:Rnd.Good s) (hs:Rnd.revS s r key now=s') (hE:Rnd.revE s r key now=E) (hk:key.length≤1000000):ConR Tryz.prog 39 [.r F<|Yj gr s] [pA gr,iD r,bD key,iD now] (fun F':LN=>[.r F'<|Yj gr s']) (fun _=>iD E):=by
 subst hs hE;exact zcx gr F s r key now hg hk
theorem zcv {gr:Nat} {F:LN} {s:Rnd.S} {r now S E:Int} (h:Rnd.atS s r now=S∧Rnd.atE s r now=E):ConR Tryz.prog 16 [.r F<|Yj gr s] [pA gr,iD r,iD now] (fun F':LN=>[.r F'<|Yj gr s]) (fun _=>Yk [iD S,iD E]):=by
 obtain ⟨rfl,rfl⟩:=h;exact zhg gr F s r now
theorem zet {gr:Nat} {F:LN} {s:Rnd.S} {r E:Int} {l:List Rnd.Opn} (hg:Rnd.Good s) (h:Zp s r=E∧ZJ s r=l):ConR Tryz.prog 43 [.r F<|Yj gr s] [pA gr,iD r] (fun F':LN=>[.r F'<|Yj gr s]) (fun _=>Yk [lsD zap l,iD E]):=by
 obtain ⟨rfl,rfl⟩:=h;exact con_bids gr F s r hg
theorem bldOp3 {a b:LB} {n:Int}:Bld Tryz.prog 110 [0,1,2] [yY a,iD n,bD b] [yY a,iD n,bD b,isD<|.bool false]:=fun L w vs hv=>by
 obtain ⟨u,v,z,rfl,rfl,rfl,h⟩:=all3 hv;have h':=h;obtain ⟨A,c,rfl,-⟩:=h;exact ⟨[.string _,.int .i64 n,.slice A _ c,.bool false],⟨V,V,h',V,t9⟩,fun w'=>by kernel_rfl⟩
theorem kGood1 {x:Env.T} {b:LB} (hx:KE x 1 b):Rnd.Good (kS1 x):=kSt2 hx ▸ kGood0.sub x 10
theorem zcj {x y:Env.T} {b c:LB} (hx:KE x 1 b) (hy:KE y 2 c):Rnd.Good (kS2 x y):=kSt4 hx hy ▸ (kGood1 hx).sub y 19
theorem zgn {x y:Env.T} {b c:LB} (hx:KE x 1 b) (hy:KE y 2 c):Rnd.Good (kS3 x y):=kRv3 (x:=x) (y:=y) ▸ (zcj hx hy).rev 0 k1L 25
theorem blsJ3 {a b c:Int}:Bls Tryz.prog 112 3 [0,1,2] [iD a,iD b,iD c] ([a,b,c].flatMap encI):=⟨3,fun L w vs hv=>by
 obtain ⟨u,v,z,rfl,rfl,rfl,rfl⟩:=all3 hv
 exact ⟨[.int .i64 _,.int .i64 _,.int .i64 _],⟨V,V,V,t9⟩,fun w'=>by kernel_rfl⟩⟩
theorem qA:ConN Tryz.prog 9 [] (yj true):=by
 refine yO Tryz.func9 k9 V k9 fun base w0=>(zp<|zf V<|zV<|YJ (S:=[]) (zC [] (zek) V t9 d9 t9 (fun _ h=>h) V) ?_);rintro _ ⟨⟨g1,s1⟩,rfl⟩;refine zd V (za V (zm V V)<|za V (zm V V) (SWl.e2 (S:=[]) (zM (zs:=[.slice none 0 0]) k9 V) fun g2=>(zf V<|zt (S:=[_]) (zw 4 V V V k9 V<|m9 V)<|ze<|zk<|yd (zhL (gb:=g1) (l:=hL) s1) [0,1,2,3] d9 (sX V) ?_)));rintro _ ⟨Fb,rfl⟩;refine zi (zd V<|zt (S:=[]) (zY (qi) V t9 V)<|YJ (zC [1] (con_new g1 hL Fb Vx jp Ku) V ⟨zb _,zb _,t9⟩ d9 ⟨lR V,t9⟩ (fun _ h=>h) V) ?_);rintro _ ⟨⟨F24,gr,H24⟩,rfl⟩;refine zd V (za V (zm V V)<|za V (zm V V)<|zf V<|zf V<|ze<|zk<|zp<|zd V<|za V (YS V V k9)<|zd V<|zy V (zI V)<|zy V (ye V V)<|za V (zv V V V)<|ze<|zE V d9<|zr<|zn<|zp<|zt (S:=[]) (zY (Y6 1 32 d9) V ⟨zb _,zb _,t9⟩ V)<|zt (S:=[]) (zY (Y6 2 32 d9) V ⟨zb _,zb _,t9⟩ V)<|zf V<|zf V<|ze<|zk<|zO (σ':=zN [(1,_),(3,_),(5,_),(6,_)] [_,_]) (sB [1,2] V V)<|zi<|zd V<|zd V (SWl.e2 (S:=[]) (zdv (e:=5) (b:=[104,105]) V V V d9 (fun w=>by kernel_rfl) V) fun g37=>(zt (zfZ (e:=5) 2 V V k9 k9 d9 (fun _ h=>h) V) (SWl.e2 (zC [0] (Yq nmA 0 1 k1L [104,105] jp) V ⟨zb _,zb _,zb _,zb _,zb _,zb _,t9⟩ d9 ⟨lR V,t9⟩ (fun _ h=>h) V) fun F39=>(zd V<|zd V (SWl.e2 (S:=[]) (zdv (e:=5) (b:=[104,111]) V V V d9 (fun w=>by kernel_rfl) V) fun g42=> ?_))))))
 refine zt (zfZ (e:=5) 2 V V k9 k9 d9 (fun _ h=>h) V) (SWl.e2 (zC [1] (Yq nmA 0 2 k1L [104,111] jp) V ⟨zb _,zb _,zb _,zb _,zb _,zb _,t9⟩ d9 ⟨lR V,t9⟩ (fun _ h=>h) V) fun F44=>(SWl.e2 (S:=[]) (zM (zs:=[.string ⟨#[]⟩,.int .i64 0,.int .i64 0,.slice none 0 0,.slice none 0 0]) k9 V) fun g7=>(SWl.e2 (S:=[]) (zM (zs:=[.string ⟨#[]⟩,.int .i64 0,.int .i64 0,.slice none 0 0,.slice none 0 0]) k9 V) fun g8=>(zt (S:=[_]) (zw 2 V V V k9 V<|m9 V)<|zt (S:=[_]) (zw 3 V V V k9 V<|m9 V)<|ze<|zk<|zk ?_))));obtain ⟨x,hxe⟩:∃ x,x=Rnd.sld hL nmA 0 1 k1L [104,105]:=⟨_,rfl⟩;obtain ⟨y,hye⟩:∃ y,y=Rnd.sld hL nmA 0 2 k1L [104,111]:=⟨_,rfl⟩
 have hx:KE x 1 [104,105]:=by rw [hxe];exact ke d9 d9
 have hy:KE y 2 [104,111]:=by rw [hye];exact ke d9 d9
 refine zO (σ':=zN [(3,_),(5,_),(6,_),(7,_),(8,_)] [.r H24<|Yj gr kS0,.c g7 [yY x.acc,iD x.rnd,iD x.ser,bD x.box,bD x.tag],.c g8 [yY y.acc,iD y.rnd,iD y.ser,bD y.box,bD y.tag]]) (⟨⟨_,V,(sT V)⟩,[0,2,3],by decide,⟨lR rfl,⟨⟨_,rfl,(by rw [hxe];exact yl _)⟩,⟨⟨_,rfl,(by rw [hye];exact yl _)⟩,trivial⟩⟩⟩⟩) (zi<|zd V<|za V (zA 1 5 V V k9 V zh) (SWl.e2 (zC [0] (ji kGood0 (kSt1 hx)<|kSub1 hx) V ⟨zb _,zb _,zb _,t9⟩ d9 ⟨lR V,t9⟩ (fun _ h=>h) V) fun F47=>(za V (ye V V)<|zd V<|yL V V d9 V V (zI V)<|yL V V d9 V V (zA 0 5 V V k9 V zh)<|ZD V V d9 V (zC [2] (ji kGood0 (kSt2 hx)<|kSub2 hx) V ⟨zb _,zb _,zb _,t9⟩ d9 ⟨lR V,t9⟩ (fun _ h=>h) V) ?_)));rintro _ ⟨F52,rfl⟩;refine yL V V d9 V V (ye V V) (za V (zv V d9 V)<|zd V<|yL V V d9 V V (zI V)<|yL V V d9 V V (zA 0 5 V V k9 V zh)<|ZD V V d9 V (zC [2] (ji (kGood1 hx) (kSt3 hx)<|kSub3 hx) V ⟨zb _,zb _,zb _,t9⟩ d9 ⟨lR V,t9⟩ (fun _ h=>h) V) ?_);rintro _ ⟨F58,rfl⟩;refine yL V V d9 V V (ye V V) (za V (zv V d9 V)<|zd V<|yL V V d9 V V (zI V)<|yL V V d9 V V (zA 1 5 V V k9 V zh)<|ZD V V d9 V (zC [2] (ji (kGood1 hx) (kSt4 hx hy)<|kSub4 hx hy) V ⟨zb _,zb _,zb _,t9⟩ d9 ⟨lR V,t9⟩ (fun _ h=>h) V) ?_)
 rintro _ ⟨F64,rfl⟩;refine yL V V d9 V V (ye V V) (za V (zv V d9 V)<|zd V<|yL V V d9 V V (zI V)<|yL V V d9 V V (zA 1 5 V V k9 V zh)<|ZD V V d9 V (zC [2] (ji (zcj hx hy) (kSt5 hy)<|kSub5 hy) V ⟨zb _,zb _,zb _,t9⟩ d9 ⟨lR V,t9⟩ (fun _ h=>h) V) ?_);rintro _ ⟨F70,rfl⟩;refine yL V V d9 V V (ye V V) (za V (zv V d9 V)<|ze<|zE V d9<|zr<|zn<|zk<|zO (σ':=zN [(3,_),(5,_),(6,_)] [_]) (sB [2] V V)<|zi<|zd V (SWl.e2 (zC [0] (zcv kAt1) V ⟨zb _,zb _,zb _,t9⟩ d9 ⟨lR V,t9⟩ (fun _ h=>h) V) fun F75=>(zd V<|za V (zm V V)<|za V (zm V V)<|zf V<|zf V<|zV<|zd V (SWl.e2 (zC [0] (zcv kAt2) V ⟨zb _,zb _,zb _,t9⟩ d9 ⟨lR V,t9⟩ (fun _ h=>h) V) fun F80=>(zd V<|za V (zm V V)<|za V (zm V V)<|zf V<|zf V<|zV<|zd V (SWl.e2 (zC [0] (zet (zcj hx hy) kBids1) V ⟨zb _,zb _,t9⟩ d9 ⟨lR V,t9⟩ (fun _ h=>h) V) fun F85=>(zd V<|za V (zm V V)<|za V (zm V V)<|zf V<|zf V<|zP ?_)))))))
 refine zn (zk<|zk<|zO (σ':=zN [(3,_),(5,_),(6,_),(9,_),(10,_),(11,_),(12,_),(14,_)] [_]) (sB [0] V V)<|zi<|zd V<|za V (ye V V)<|zd V<|yL V V d9 V V (zI V)<|yL V V d9 V V (ye V V)<|za V (zv V d9 V)<|zd V<|yL V V d9 V V (zI V)<|yL V V d9 V V (ye V V)<|za V (zv V d9 V)<|zd V<|yL V V d9 V V (zI V)<|yL V V d9 V V (ye V V)<|za V (zv V d9 V)<|zd V<|yL V V d9 V V (zI V)<|yL V V d9 V V (ye V V)<|za V (zv V d9 V)<|ze<|zE V d9<|zr<|zn<|zk<|zk<|zO (σ':=zN [(3,_),(5,_),(6,_)] [_]) (sB [0] V V)<|zi<|zd V<|zd V (SWl.e2 (zC [0] (Kg (zcj hx hy) kRv1 kRev1 s9) V ⟨zb _,zb _,zb _,zb _,t9⟩ d9 ⟨lR V,t9⟩ (fun _ h=>h) V) fun F108=>(za V (ye V V)<|zd V<|yL V V d9 V V (zI V)<|yL V V d9 V V (zI V)<|ZD V V d9 V (zC [0] (Kg (zcj hx hy) kRv2 kRev2 s9) V ⟨zb _,zb _,zb _,zb _,t9⟩ d9 ⟨lR V,t9⟩ (fun _ h=>h) V) ?_)));rintro _ ⟨F113,rfl⟩;refine yL V V d9 V V (ye V V) (za V (zv V d9 V)<|zd V<|yL V V d9 V V (zI V)<|yL V V d9 V V (zI V)<|ZD V V d9 V (zC [0] (Kg (zcj hx hy) kRv3 kRev3 s9) V ⟨zb _,zb _,zb _,zb _,t9⟩ d9 ⟨lR V,t9⟩ (fun _ h=>h) V) ?_)
 rintro _ ⟨F119,rfl⟩;refine yL V V d9 V V (ye V V) (za V (zv V d9 V)<|zd V<|yL V V d9 V V (zI V)<|yL V V d9 V V (zI V)<|ZD V V d9 V (zC [0] (Kg (zgn hx hy) kRv4 kRev4 s9) V ⟨zb _,zb _,zb _,zb _,t9⟩ d9 ⟨lR V,t9⟩ (fun _ h=>h) V) ?_);rintro _ ⟨F125,rfl⟩;refine yL V V d9 V V (ye V V) (za V (zv V d9 V)<|ze<|zE V d9<|zr<|zn<|zk<|zO (σ':=zN [(3,_)] [_]) (sB [0] V V)<|zi<|zd V (SWl.e2 (zC [0] (zet (zgn hx hy)<|kBids2 hy) V ⟨zb _,zb _,t9⟩ d9 ⟨lR V,t9⟩ (fun _ h=>h) V) fun F130=>(zd V<|za V (zm V V)<|za V (zm V V)<|zf V<|zf V<|ze<|zk<|zO (σ':=zN [(3,_),(15,_),(16,_)] [_]) (sB [0] V V)<|zi<|zd V<|za V (yM V V)<|zd V<|yL V V d9 V V (zI V)<|ZD (S:=[]) V V d9 V (zdv (e:=5) (b:=[104,111]) V V V d9 (fun w=>by kernel_rfl) V) ?_)));rintro _ ⟨g137,rfl⟩;refine ZD V V d9 V (zfZ (e:=5) 1 V V k9 k9 d9 (fun _ h=>h) V) ?_;rintro _ rfl;refine yL V V d9 V V (yq V V bldOp3) (ZD (S:=[]) V V d9 V (ZL V V (blsO1 (⟨nmA,2,[104,111],false⟩:Rnd.Opn)) V) ?_)
 rintro _ rfl;refine ZD (S:=[]) V V d9 V (zD [] (jP [(⟨nmA,2,[104,111],false⟩:Rnd.Opn)] [(⟨nmA,2,[104,111],false⟩:Rnd.Opn)] d9) V ⟨(zo<|zb _),(zo<|zb _),t9⟩ V) ?_;rintro _ rfl;refine za V (zB V d9 V) (zd V<|yL V V d9 V V (zI V)<|ZD V V d9 V (zC [0] (zh3 gr F130<|kS3 x y) V ⟨zb _,t9⟩ d9 ⟨lR V,t9⟩ (fun _ h=>h) V) ?_);rintro _ ⟨F145,rfl⟩;refine yL V V d9 V V (yM V V) (za V (zB V d9 V)<|zd V<|zy V (zI V)<|ZD V V V V (zC [0] (zbj gr F145 (kS3 x y)<|zgn hx hy) V ⟨zb _,t9⟩ d9 ⟨lR V,t9⟩ (fun _ h=>h) V) ?_);rintro _ ⟨⟨F150,gL,H150⟩,rfl⟩;refine zhO (ld_out (gl:=gL) (es:=(kS3 x y).en)) [1] d9 ⟨lR V,t9⟩ ?_;rintro _ ⟨u,rfl⟩;refine ZD (S:=[]) V V V V (ZL V V blsJ3 V) ?_;rintro _ rfl;refine ZD (S:=[]) V V V V (zD [1,2,3] (con_kinds (kS3 x y).en [1,1,2] (by show 3≤100000;decide) (fun e he=>by have:=((zgn hx hy).fit e he).2.2;omega)) V ⟨(yG 1 V d9 ⟨(YC 2 V d9),(sees_map 3 V d9),t9⟩),(zo<|zb _),t9⟩ V) ?_;rintro _ rfl;refine za V (zB V V V) (zf V<|ze<|zK (fn:=Tryz.f9) (fun _ _ h=>h)<|Rs.le (Rs.one V<|zj V) ?_)
 exact zZ (by rw [kKinds];rfl)
