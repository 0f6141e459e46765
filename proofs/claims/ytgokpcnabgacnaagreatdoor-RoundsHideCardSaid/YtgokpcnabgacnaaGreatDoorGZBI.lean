/- ROUNDS: the law's key, schedule, few. WHAT CAME IN: the calls of chapter 44's laws. ROUNDS: the law's sealed. ROUNDS: the examples of the chapter, in  -/
import Derived.Test.YtgokpcnabgacnaaGreatDoorGZBH
import Derived.Test.YtgokpcnabgacnaaGreatDoorGZAQ
import Derived.Test.YtgokpcnabgacnaaGreatDoorGZAS
set_option maxHeartbeats 8000000
set_option maxRecDepth 100000
namespace Go.Proofs.YtgokpcnabgacnaaGreatDoor
open Go.RowKit
namespace Sx
theorem uidx {z:Int} {n:Nat}:(IntKind.wrap .u64 z).tmod (n:Int)=(((IntKind.wrap .u64 z).toNat % n:Nat):Int):=by
 rw [IntKind.wrap_u64];have h:0≤z % 18446744073709551616:=Int.emod_nonneg _ d9;obtain ⟨m,hm⟩:=Int.eq_ofNat_of_zero_le h;rw [hm]
 rfl
def ZT (n:Int):Nat:=(IntKind.wrap .u64 n).toNat % 3
theorem kn_lt (n:Int):ZT n < 3:=Nat.mod_lt _ d9
theorem kn_rem (n:Int):(IntKind.wrap .u64 n).tmod 3=((ZT n:Nat):Int):=uidx (n:=3)
theorem kn_add (n:Int):IntKind.u64.wrap (1 + ((ZT n:Nat):Int))=((1 + ZT n:Nat):Int):=by
 have:=kn_lt n;rw [IntKind.wrap_u64];omega
theorem kn_u8 (n:Int):IntKind.u8.wrap ((1 + ZT n:Nat):Int)=((UInt8.ofNat (1 + ZT n)).toNat:Int):=by
 have h:=kn_lt n
 have h3:ZT n=0∨ZT n=1∨ZT n=2:=by omega
 rcases h3 with h | h | h <;> rw [h] <;> rfl
def yU (n:Int):LB:=List.replicate 32 (UInt8.ofNat (1 + ZT n))
theorem keyL_len (n:Int):(yU n).length=32:=by simp [yU]
abbrev k1L:LB:=List.replicate 32 1
abbrev k2L:LB:=List.replicate 32 2
def schA:Rnd.Win:=⟨10,20,25,Env.comB k1L⟩
def schB:Rnd.Win:=⟨20,30,30,Env.comB k2L⟩
def schL:List Rnd.Win:=[schA,schB]
theorem bldW4 {a b c:Int} {m:LB}:Bld Tryz.prog 26 [0,1,2,3] [iD a,iD b,iD c,bD m] [iD a,iD b,iD c,bD m]:=fun L w vs hv=>by
 match vs,hv with
 | [x,y,z,u],⟨hx,hy,hz,h4,_⟩=>
  cases hx;cases hy;cases hz
  have h4':=h4;obtain ⟨A,cp,rfl,-⟩:=h4;exact ⟨[.int .i64 a,.int .i64 b,.int .i64 c,.slice A _ cp],⟨V,V,V,h4',t9⟩,fun w'=>by kernel_rfl⟩
theorem blsW2 {x y:Rnd.Win}:Bls Tryz.prog 22 2 [0,1] [Zn [iD x.st,iD x.en,iD x.rv,bD x.cm],Zn [iD y.st,iD y.en,iD y.rv,bD y.cm]] ([x,y].flatMap encW):=⟨26,fun L w vs hv=>by
 match vs,hv with
 | [u,v],⟨hu,hv',_⟩=>
 obtain ⟨cs,hue,hc⟩:=hu;obtain ⟨ds,hve,hd⟩:=hv';subst hue hve
 match cs,ds,hc,hd with
 | [a,b,c,d],[a',b',c',d'],hc,hd=>
  obtain ⟨rfl,rfl,rfl,h,-⟩:=hc;obtain ⟨rfl,rfl,rfl,k,-⟩:=hd;have h':=h;have k':=k;obtain ⟨A,cp,rfl,-⟩:=h;obtain ⟨A2,cp2,rfl,-⟩:=k
  exact ⟨[.int .i64 _,.int .i64 _,.int .i64 _,.slice A _ cp,.int .i64 _,.int .i64 _,.int .i64 _,.slice A2 _ cp2],⟨V,V,V,h',V,V,V,k',t9⟩,fun w'=>by kernel_rfl⟩⟩
structure Ac where
 what:Int
 who:Int
 rnd:Int
 ser:Int
 key:Int
 now:Int
 bid:LB
 e:Env.T
def encAc (x:Ac):List D:=[iD x.what,iD x.who,iD x.rnd,iD x.ser,iD x.key,iD x.now,bD x.bid,yp x.e.acc,iD x.e.rnd,iD x.e.ser,bD x.e.box,bD x.e.tag]
instance:Row encAc 12:=⟨fun _=>rfl,fun _=>by unfold encAc;infer_instance,by decide⟩
instance (x:Ac):Ones (encAc x):=by unfold encAc;infer_instance
def Ac.short (x:Ac):Prop:=x.bid.length≤100∧x.e.acc.length≤100∧x.e.box.length≤300∧x.e.tag.length≤100
def Ac.few (l:List Ac) (m:Int):Prop:=(∀ x∈l,x.short)∧(l.length:Int)≤m
instance (l:List Ac) (m:Int):Decidable (Ac.few l m):=by unfold Ac.few Ac.short;infer_instance
theorem Yi (n:Int):Con Tryz.prog 24 [iD n] (bD (yU n)):=by
 refine con_of Tryz.func24 k9 V k9 fun base w0=>(zh (zb (za V (zg V) (zf (zc (zh (zb (za V (ze V) (za V ((Rd.cvi (kd:= .u64) .i64 V k9 k9)) (za V (Rd.remW V V d9 (kn_rem n)) (za V (Rd.addW V V (kn_add n)) (za V (Ye (r:=((UInt8.ofNat (1 + ZT n)).toNat:Int)) .u64 V k9 k9 (kn_u8 n)) (zl (S:=[]) (yg (Ya (UInt8.ofNat (1 + ZT n)) 32 d9) V ⟨zd _,zd _,t9⟩ V) ?_)))))))))))));rintro _ rfl;refine za V (zg V) (zf (zc (zR (fn:=Tryz.f24) (fun _ _ h=>h) (Rs.le (Rs.one V (zp V)) ?_))));exact zd _
theorem con_schedule:Con Tryz.prog 19 [] (lsD encW schL):=by
 refine con_of Tryz.func19 k9 V k9 fun base w0=>(zh (zb (za V (zg V) (zf (zc (zh (zb (zl (S:=[]) (yg (Ya 1 32 d9) V ⟨zd _,zd _,t9⟩ V) ?_))))))));rintro _ rfl;refine zl (S:=[]) (yg (con_commitL k1L s9) V ⟨zd _,t9⟩ V) ?_;rintro _ rfl;refine za V (yr V V bldW4) (zl (S:=[]) (yg (Ya 2 32 d9) V ⟨zd _,zd _,t9⟩ V) ?_);rintro _ rfl;refine zl (S:=[]) (yg (con_commitL k2L s9) V ⟨zd _,t9⟩ V) ?_;rintro _ rfl;refine za V (yr V V bldW4) (zl (S:=[]) (ZB V V (blsW2 (x:=schA) (y:=schB)) V) ?_);rintro _ rfl;refine za V (zg V) (zf (zc (zR (fn:=Tryz.f19) (fun _ _ h=>h) (Rs.le (Rs.one V (zp V)) ?_))));exact zd _
theorem con_few44 (l:List Ac) (m:Int) (hl:l.length≤9223372036854775807):ConN Tryz.prog 18 [lsD encAc l,iD m] (yc (decide (Ac.few l m))):=by
 refine yJ Tryz.func18 k9 V k9 fun base w0=>(zh (zb (za V (zg V) (zf (zc (zh (zh (zb (za V (zg V) (zf (zc (zV (Zk (ι:={i:Nat // i≤l.length∧∀ x∈l.take i,x.short}) (fun i=>zK [(0,lsD encAc l),(1,iD m),(5,iD (i.1:Int))] []) (fun i=>l.length - i.1) (⟨0,by simp⟩) ?_ ?_)))))))))))))
 ·exact (sB [] V V)
 ·rintro ⟨i,hi,ha⟩ K0 hK0;dsimp only;refine zh (zh (zb (za V (ze V) (za V (ze V) (za V (Zw (e:=60) V k9) (za V (yG V V) (zf (zc (zI V (fun hb9=> ?_) (fun hb9=> ?_))))))))))
  ·have h9:(i:Int) < (l.length:Int):=oT hb9;refine zu (zc (zh (zV (zh ?_))));obtain ⟨x,hx⟩:∃ x,l[i]? =some x:=⟨_,List.getElem?_eq_getElem o9⟩;refine zb (za V (ze V) (za V (ze V) (za V (yH (e:=60) 12 V V k9 k9 o9 (by simpa using hx)) (za V (yk (n:=6) V k9 (show 6 < 12 by decide)) (za rfl (yi rfl rfl k9 s9) (za rfl (Zq (e:=5) rfl k9) (za rfl (ZK rfl rfl) (za rfl (ze rfl) (zZ 19 rfl (fun hb19=> ?_) (fun hb19=> ?_))))))))))
   ·have h19:¬x.bid.length≤100:=by (have h:=oT hb19;rw [zw] at h;omega)
    refine zo V V (hb19) V V (zo V V (hb19) V V (zo V V (hb19) V V (zo V V (hb19) V V (zo V V (hb19) V V (zo V V (hb19) V V (zo V V (hb19) V V (zo V V (hb19) V V (za V (zD V (hb19) V) (za V (ze V) (zo V V (V) V V (zo V V (V) V V (zo V V (V) V V (zo V V (V) V V (zo V V (V) V V (zo V V (V) V V (zo V V (V) V V (zo V V (V) V V (za V (zD V (V) V) (za V (ze V) (zo V V (V) V V (zo V V (V) V V (zo V V (V) V V (zo V V (V) V V (zo V V (V) V V (zo V V (V) V V (zo V V (V) V V (zo V V (V) V V (za V (zD V (V) V) (zf (zc (yd V (V) (zh (zb (za V (zg V) (zf (zc (zR (fn:=Tryz.f18) (fun _ _ h=>h) (Rs.le (Rs.one V (zp V)) ?_))))))))))))))))))))))))))))))))))))));exact ym (by symm;apply decide_eq_false;rintro ⟨h,_⟩;have h2:=h x (List.mem_of_getElem? hx);exact h19 h2.1)
   ·have h19:x.bid.length≤100:=by (have h:=oF hb19;rw [zw] at h;omega)
    refine zm V V (hb19) V V (ze V) (zm V V (hb19) V V (ze V) (zm V V (hb19) V V (yH (e:=60) 12 V V k9 k9 o9 (by simpa using hx)) (zm V V (hb19) V V (yk (n:=7) V k9 (show 7 < 12 by decide)) (zm rfl rfl (hb19) rfl rfl (yk (n:=0) rfl k9 (show 0 < 5 by decide)) (zm rfl rfl (hb19) rfl rfl (yi rfl rfl k9 s9) (zm rfl rfl (hb19) rfl rfl (Rd.lenb rfl k9) (zm rfl rfl (hb19) rfl rfl (ZK rfl rfl) (za rfl (zy rfl (hb19) rfl) (za rfl (ze rfl) (zZ 29 rfl (fun hb29=> ?_) (fun hb29=> ?_)))))))))))
    ·have h29:¬x.e.acc.length≤100:=by (have h:=oT hb29;omega)
     refine zo V V (hb29) V V (zo V V (hb29) V V (zo V V (hb29) V V (zo V V (hb29) V V (zo V V (hb29) V V (zo V V (hb29) V V (zo V V (hb29) V V (zo V V (hb29) V V (za V (zD V (hb29) V) (za V (ze V) (zo V V (V) V V (zo V V (V) V V (zo V V (V) V V (zo V V (V) V V (zo V V (V) V V (zo V V (V) V V (zo V V (V) V V (zo V V (V) V V (za V (zD V (V) V) (zf (zc (yd V (V) (zh (zb (za V (zg V) (zf (zc (zR (fn:=Tryz.f18) (fun _ _ h=>h) (Rs.le (Rs.one V (zp V)) ?_))))))))))))))))))))))))))));exact ym (by symm;apply decide_eq_false;rintro ⟨h,_⟩;have h2:=h x (List.mem_of_getElem? hx);exact h29 h2.2.1)
    ·have h29:x.e.acc.length≤100:=by (have h:=oF hb29;omega)
     refine zm V V (hb29) V V (ze V) (zm V V (hb29) V V (ze V) (zm V V (hb29) V V (yH (e:=60) 12 V V k9 k9 o9 (by simpa using hx)) (zm V V (hb29) V V (yk (n:=7) V k9 (show 7 < 12 by decide)) (zm rfl rfl (hb29) rfl rfl (yk (n:=3) rfl k9 (show 3 < 5 by decide)) (zm rfl rfl (hb29) rfl rfl (yi rfl rfl k9 s9) (zm rfl rfl (hb29) rfl rfl (Zq (e:=5) rfl k9) (zm rfl rfl (hb29) rfl rfl (ZK rfl rfl) (za rfl (zy rfl (hb29) rfl) (za rfl (ze rfl) (zZ 39 rfl (fun hb39=> ?_) (fun hb39=> ?_)))))))))))
     ·have h39:¬x.e.box.length≤300:=by (have h:=oT hb39;rw [zw] at h;omega)
      refine zo V V (hb39) V V (zo V V (hb39) V V (zo V V (hb39) V V (zo V V (hb39) V V (zo V V (hb39) V V (zo V V (hb39) V V (zo V V (hb39) V V (zo V V (hb39) V V (za V (zD V (hb39) V) (zf (zc (yd V (V) (zh (zb (za V (zg V) (zf (zc (zR (fn:=Tryz.f18) (fun _ _ h=>h) (Rs.le (Rs.one V (zp V)) ?_))))))))))))))))));exact ym (by symm;apply decide_eq_false;rintro ⟨h,_⟩;have h2:=h x (List.mem_of_getElem? hx);exact h39 h2.2.2.1)
     ·have h39:x.e.box.length≤300:=by (have h:=oF hb39;rw [zw] at h;omega)
      refine zm V V (hb39) V V (ze V) (zm V V (hb39) V V (ze V) (zm V V (hb39) V V (yH (e:=60) 12 V V k9 k9 o9 (by simpa using hx)) (zm V V (hb39) V V (yk (n:=7) V k9 (show 7 < 12 by decide)) (zm rfl rfl (hb39) rfl rfl (yk (n:=4) rfl k9 (show 4 < 5 by decide)) (zm rfl rfl (hb39) rfl rfl (yi rfl rfl k9 s9) (zm rfl rfl (hb39) rfl rfl (Zq (e:=5) rfl k9) (zm rfl rfl (hb39) rfl rfl (ZK rfl rfl) (za rfl (zy rfl (hb39) rfl) (zf (zc (zI rfl (fun hb48=> ?_) (fun hb48=> ?_))))))))))))
      ·have h48:¬x.e.tag.length≤100:=by (have h:=oT hb48;rw [zw] at h;omega)
       refine zh (zb (za V (zg V) (zf (zc (zR (fn:=Tryz.f18) (fun _ _ h=>h) (Rs.le (Rs.one V (zp V)) ?_))))));exact ym (by symm;apply decide_eq_false;rintro ⟨h,_⟩;have h2:=h x (List.mem_of_getElem? hx);exact h48 h2.2.2.2)
      ·have h48:x.e.tag.length≤100:=by (have h:=oF hb48;rw [zw] at h;omega)
       exact zu (yf (zc (zb (za V (ze V) (za V (yM V V ⟨by omega,by omega⟩) (za rfl (zg rfl) (zf (fun a w hh=>hK0 (⟨i + 1,by omega,fun y hy=>by rw [yq hx] at hy;rcases List.mem_append.1 hy with hy | hy;exact ha y hy;rw [List.mem_singleton.1 hy];exact ⟨h19,h29,h39,h48⟩⟩) (by simp only;omega) a w (hh.sub (sB [] rfl rfl))))))))))
  ·have h9:¬(i:Int) < (l.length:Int):=oF hb9;refine yW ?_
   repeat (first | refine Za ?_ | refine Zb d9 ?_)
   refine Zi (zc (zh (zb (za V (ze V) (za V (Zw (e:=60) V k9) (za V (ze V) (za V (Rd.leq V V) (za V (zg V) (zf (zc (zR (fn:=Tryz.f18) (fun _ _ h=>h) (Rs.le (Rs.one V (zp V)) ?_))))))))))));exact ym (by rw [decide_eq_decide];exact ⟨fun h=>⟨fun x hx=>ha x (by rw [List.take_of_length_le o9];exact hx),h⟩,fun h=>h.2⟩)
end Sx
end Go.Proofs.YtgokpcnabgacnaaGreatDoor
namespace Go.Proofs.YtgokpcnabgacnaaGreatDoor
open Go.ChangeShapes Go.WideShapes Go.ChangeAt Go.RowKit
namespace Sx
instance:Inhabited Ac:=⟨⟨0,0,0,0,0,0,[],Env.zero⟩⟩
theorem came_ac:Came Tryz.prog 60 encAc (fun _=>True):=fun H enc W fuel cs x h=>by
 obtain ⟨hl,hf⟩:=came_fields Tryz.underlying60 h;have hl':cs.length=12:=hl.trans k9;obtain ⟨_,_,h0⟩:=hf 0 _ rfl;obtain ⟨_,_,h1⟩:=hf 1 _ rfl;obtain ⟨_,_,h2⟩:=hf 2 _ rfl;obtain ⟨_,_,h3⟩:=hf 3 _ rfl;obtain ⟨_,_,h4⟩:=hf 4 _ rfl;obtain ⟨_,_,h5⟩:=hf 5 _ rfl;obtain ⟨_,_,h6⟩:=hf 6 _ rfl;obtain ⟨_,_,h7⟩:=hf 7 _ rfl;obtain ⟨a,-,a0⟩:=came_int Tryz.underlying3 _ _ _ _ _ _ h0;obtain ⟨b,-,a1⟩:=came_int Tryz.underlying3 _ _ _ _ _ _ h1;obtain ⟨c,-,a2⟩:=came_int Tryz.underlying3 _ _ _ _ _ _ h2;obtain ⟨d,-,a3⟩:=came_int Tryz.underlying3 _ _ _ _ _ _ h3;obtain ⟨e,-,a4⟩:=came_int Tryz.underlying3 _ _ _ _ _ _ h4;obtain ⟨f,-,a5⟩:=came_int Tryz.underlying3 _ _ _ _ _ _ h5;obtain ⟨g,-,a6⟩:=came_bytes Tryz.underlying24 Tryz.underlying5 k9 _ _ _ _ _ _ h6;obtain ⟨m,-,a7⟩:=came_env _ _ _ _ _ _ h7;exact ⟨⟨a,b,c,d,e,f,g,m⟩,t9,all_parts [[iD a],[iD b],[iD c],[iD d],[iD e],[iD f],[bD g],YT m] cs 0 ⟨a0,a1,a2,a3,a4,a5,a6,a7,t9⟩ (by simpa [YT] using hl')⟩
theorem came_acs:Came Tryz.prog 52 (fun l:List Ac=>[lsD encAc l]) (fun l=>l.length≤maxLen∧∀ e∈l,True):=came_slice Tryz.underlying52 k9 d9 came_ac
def Rnd.b8 (z:Int):UInt8:=UInt8.ofNat (z % 256).toNat
theorem b8_w (z:Int):IntKind.u8.wrap z=((Rnd.b8 z).toNat:Int):=by
 have h0:0≤z % 256:=Int.emod_nonneg _ d9;have h1:z % 256 < 256:=Int.emod_lt_of_pos _ d9
 have h2:IntKind.u8.wrap z=z % 256:=by simp [IntKind.wrap,IntKind.signed,IntKind.bits]
 rw [h2];unfold Rnd.b8;have h3:(UInt8.ofNat (z % 256).toNat).toNat=(z % 256).toNat % 256:=rfl;rw [h3];omega
def Rnd.sld (l:List Acc.T) (nm:LB) (rnd ser:Int) (key bid:LB):Env.T:=Env.slT l nm rnd ser key (List.replicate 16 (Rnd.b8 ser)) bid
theorem con_sealed (gb:Nat) (s:Bst) (l:List Acc.T) (nm:LB) (rnd ser:Int) (key bid:LB) (hf:Acc.Fine l):ConR Tryz.prog 23 [.c gb [isD (.map (s.M.map Prod.fst)),isD (.slice s.n.A (Acc.nm l).length s.n.c),isD (.map (s.M.map Prod.snd))],.r s.n.F (yj 9 1 Zj s.n.A s.n.c (Acc.nm l)),.r s.F1 (ya (s.M.map Prod.fst) yA (Acc.nm l) (acD l)),.r s.F2 (ya (s.M.map Prod.snd) yu (Acc.seats l) (seD l))] [pA gb,yp nm,iD rnd,iD ser,bD key,bD bid] (fun _:Unit=>[.c gb [isD (.map (s.M.map Prod.fst)),isD (.slice s.n.A (Acc.nm l).length s.n.c),isD (.map (s.M.map Prod.snd))],.r s.n.F (yj 9 1 Zj s.n.A s.n.c (Acc.nm l)),.r s.F1 (ya (s.M.map Prod.fst) yA (Acc.nm l) (acD l)),.r s.F2 (ya (s.M.map Prod.snd) yu (Acc.seats l) (seD l))]) (fun _:Unit=>Zn (YT (Rnd.sld l nm rnd ser key bid))):=by
 refine zW Tryz.func23 k9 V k9 fun base w0=>(zh (zb (zl (S:=[]) (zH (zs:=[.string ⟨#[]⟩,.int .i64 0,.int .i64 0,.slice none 0 0,.slice none 0 0]) k9 V) ?_)));rintro _ ⟨g12,rfl⟩;refine zf (zc (zh (zb (za V (ze V) (za V (ze V) (za V (ze V) (za V (ze V) (za V (ze V) (za V (ze V) (za V (Ye (r:=((Rnd.b8 ser).toNat:Int)) .i64 V k9 k9 (b8_w ser)) (zl (S:=[]) (yg (Ya (Rnd.b8 ser) 16 d9) V ⟨zd _,zd _,t9⟩ V) ?_)))))))))));rintro _ rfl;refine za V (ze V) (zl (zx [0,1,2,3] (con_sealE gb s l nm rnd ser key (List.replicate 16 (Rnd.b8 ser)) bid hf) V ⟨zd _,zd _,zd _,zd _,zd _,zd _,zd _,t9⟩ d9 (sX V) (fun _ h=>h) V) ?_);rintro _ ⟨⟨⟩,rfl⟩;refine za V (ze V) (za V (zr V V) (za V (zr V V) (zl (S:=[]) (zH (zs:=[.string ⟨#[]⟩,.int .i64 0,.int .i64 0,.slice none 0 0,.slice none 0 0]) k9 V) ?_)));rintro _ ⟨g13,rfl⟩;refine zl (S:=[_]) (zC 5 V V V k9 V (m9 V)) ?_;rintro _ rfl;refine za V (zg V) (zf (zc (zh ?_)));obtain ⟨x,hx⟩:∃ x,x=Rnd.sld l nm rnd ser key bid:=⟨_,rfl⟩
 refine zQ (σ':=zK [(12,pA g12),(13,pA g13)] [.c gb [isD (.map (s.M.map Prod.fst)),isD (.slice s.n.A (Acc.nm l).length s.n.c),isD (.map (s.M.map Prod.snd))],.r s.n.F (yj 9 1 Zj s.n.A s.n.c (Acc.nm l)),.r s.F1 (ya (s.M.map Prod.fst) yA (Acc.nm l) (acD l)),.r s.F2 (ya (s.M.map Prod.snd) yu (Acc.seats l) (seD l)),.c g12 [yp [],iD 0,iD 0,isD (.slice none 0 0),isD (.slice none 0 0)],.c g13 [yp x.acc,iD x.rnd,iD x.ser,bD x.box,bD x.tag]]) (⟨⟨_,V,(sT V)⟩,[1,2,3,4,0,5],by decide,⟨la rfl,⟨lR rfl,⟨lR rfl,⟨lR rfl,⟨la rfl,⟨⟨_,rfl,(by rw [hx];exact yl _)⟩,trivial⟩⟩⟩⟩⟩⟩⟩) (zb (za rfl (zG 5 5 rfl rfl k9 rfl zn) (zl (S:=[_]) (zC 4 rfl rfl rfl k9 rfl (m9 rfl)) ?_)));rintro _ rfl;refine zf (zc (zJ (fn:=Tryz.f23) (()) [0,1,2,3] (fun _ _ h=>h) (Rs.le (Rs.one V (yv 4 V V k9)) ?_) d9 (sX V)));rw [← hx];exact zd _
theorem con_kinds (es:List Led.Ent) (ks:List Int) (hl:es.length≤100000) (hb:∀ e∈es,e.bytes.length≤1000000):ConN Tryz.prog 47 [ledD es,lsD encI ks] (yc (decide ((es.map Led.Ent.kind)=ks))):=by
 refine yJ Tryz.func47 k9 V k9 fun base w0=>(zh (zb (za V (zg V) (zf (zc (zh (zh (zb (za V (ze V) (zl (S:=[]) (zz [] (con_len es) V ⟨(zq (zd _)),t9⟩ V) ?_))))))))));rintro _ rfl;refine za V (ze V) (za V (Zw (e:=3) V k9) (za V (zX V V) (zf (zc (zI V (fun hb12=> ?_) (fun hb12=> ?_))))))
 ·have h12:¬es.length=ks.length:=by (have h:=hb12;simp at h;omega)
  refine zh (zb (za V (zg V) (zf (zc (zR (fn:=Tryz.f47) (fun _ _ h=>h) (Rs.le (Rs.one V (zp V)) ?_))))));exact ym (by symm;apply decide_eq_false;intro h;exact h12 (by rw [← h,List.length_map]))
 ·have h12:es.length=ks.length:=by (have h:=hb12;simp at h;omega)
  refine zu (zc (zh (zh (zb (za V (zg V) (zf (zc (zV (Zk (ι:={i:Nat // i≤ks.length∧∀ j,j < i→(es.map Led.Ent.kind)[j]? =ks[j]?}) (fun i=>zK [(0,ledD es),(1,lsD encI ks),(5,iD (i.1:Int))] []) (fun i=>ks.length - i.1) (⟨0,Nat.zero_le _,fun j hj=>absurd hj (Nat.not_lt_zero _)⟩) ?_ ?_)))))))))
  ·exact (sB [] V V)
  ·rintro ⟨i,hi,hq⟩ K0 hK0;dsimp only at hi hq ⊢;refine zh (zh (zb (za V (ze V) (za V (ze V) (za V (Zw (e:=3) V k9) (za V (yG V V) (zf (zc (zI V (fun hb16=> ?_) (fun hb16=> ?_))))))))))
   ·have h16:(i:Int) < (ks.length:Int):=oT hb16;refine zu (zc (zh (zV (zh ?_))));obtain ⟨e,he⟩:∃ e,es[i]? =some e:=⟨_,List.getElem?_eq_getElem o9⟩;obtain ⟨k,hk⟩:∃ k,ks[i]? =some k:=⟨_,List.getElem?_eq_getElem o9⟩;refine zb (za V (ze V) (za V (ze V) (zl (S:=[]) (zz [] (con_at es i e he (hb e (List.mem_of_getElem? he))) V ⟨(zq (zd _)),(zq (zd _)),t9⟩ V) ?_)));rintro _ rfl;refine za V (ze V) (za V (zr V V) (za V (zr V V) (zl (S:=[]) (zH (zs:=[.int .i64 0,.slice none 0 0]) k9 V) ?_)));rintro _ ⟨g6,rfl⟩;refine zl (S:=[_]) (zC 0 V V V k9 V (m9 V)) ?_;rintro _ rfl
    refine za V (zg V) (zf (zc (zh (yh [] (.r 0 (.r 1 (.r 2 (.r 3 (.r 4 (.r 5 (.r 6 (.r 7 (.r 8 (.r 9 (.r 10 .fin))))))))))) k9 k9 (fun d _ _ _ _ h=>by cases d <;> exact h) (zk rfl rfl (ze rfl) (zk rfl rfl (zX rfl rfl) (zk rfl rfl (ze rfl) (yb rfl rfl rfl s9 rfl rfl (zi (n:=0) rfl k9) (yb rfl rfl rfl s9 rfl rfl (zj 0 rfl rfl rfl k9 zn) (yb rfl rfl rfl s9 rfl rfl (ze rfl) (yb rfl rfl rfl s9 rfl rfl (ze rfl) (yb rfl rfl rfl s9 rfl rfl (yH (e:=3) 1 rfl rfl k9 k9 o9 (by simpa using hk)) (yb rfl rfl rfl s9 rfl rfl (yi rfl rfl k9 s9) (yb rfl rfl rfl s9 rfl rfl (zX rfl rfl) (zk rfl rfl (zy rfl s9 rfl) (zP (zc (zI rfl (fun hb35=> ?_) (fun hb35=> ?_)))))))))))))))))))
    ·have h35:¬e.kind=k:=by simpa using hb35
     refine zh (zb (za V (zg V) (zf (zc (zR (fn:=Tryz.f47) (fun _ _ h=>h) (Rs.le (Rs.one V (zp V)) ?_))))));exact ym (by symm;apply decide_eq_false;intro h;rw [← h,List.getElem?_map,he] at hk;exact h35 (Option.some.inj hk))
    ·have h35:e.kind=k:=by simpa using hb35
     exact zu (yf (zc (zb (za V (ze V) (za V (yM V V ⟨by omega,by omega⟩) (za rfl (zg rfl) (zf (fun a w hh=>hK0 (⟨i + 1,by omega,fun j hj=>by (rcases Nat.lt_succ_iff_lt_or_eq.1 hj with h | h;exact hq j h;(rw [h,List.getElem?_map,he,hk,Option.map_some,h35]))⟩) (by dsimp only;omega) a w (hh.sub (⟨⟨_,rfl,⟨lq rfl,⟨lq rfl,⟨⟨_,rfl,zE s9⟩,trivial⟩⟩⟩⟩,[],by decide,trivial⟩))))))))))
   ·have h16:¬(i:Int) < (ks.length:Int):=oF hb16;refine yW ?_
    repeat (first | refine Za ?_ | refine Zb d9 ?_)
    refine Zi (zc (zh (zb (za V (zg V) (zf (zc (zR (fn:=Tryz.f47) (fun _ _ h=>h) (Rs.le (Rs.one V (zp V)) ?_))))))));exact ym (by symm;apply decide_eq_true;exact ext_upto (by rw [List.length_map];exact h12) (by rw [List.length_map];omega) hq)
theorem hFind:Acc.find hL nmA=some hA:=rfl
structure KE (x:Env.T) (n:Int) (b:LB):Prop where
 ok:Env.ok x
 aut:Env.autE hL x=0
 acc:x.acc=nmA
 rnd:x.rnd=0
 ser:x.ser=n
 op1:Env.opE hL x k1L=0
 op2:Env.opB hL x k1L=b
theorem ke {n:Int} {b:LB} (hn:0≤n∧n≤1073741824) (hb:b.length≤4096):KE (Rnd.sld hL nmA 0 n k1L b) n b:=by
 have h:=Env.sld (key:=k1L) (nonce:=List.replicate 16 (Rnd.b8 n)) (bid:=b) hFine hFind (show (0:Int)≤0∧(0:Int)≤1048576 by decide) hn s9 s9 hb;have ho:=Env.op_sld h s9 s9 hb;have he:Rnd.sld hL nmA 0 n k1L b=Env.mk hL nmA 0 n k1L (List.replicate 16 (Rnd.b8 n)) b:=h.eq;rw [he];exact ⟨h.ok,h.aut,V,V,V,ho.1,ho.2⟩
theorem comB_len {k:LB} (h:k.length=32):(Env.comB k).length=32:=by
 unfold Env.comB Env.comH;rw [if_pos h];simp
theorem sch_ok:Rnd.ok schL:=by
 have h1:(Env.comB k1L).length=32:=comB_len s9;have h2:(Env.comB k2L).length=32:=comB_len s9;exact ⟨⟨by decide,by decide⟩,⟨by decide,by decide,by decide,by decide,h1⟩,⟨by decide,by decide,by decide,by decide,h2⟩,trivial⟩
theorem com_ne:Env.comB k2L≠Env.comB k1L:=by decide +kernel
abbrev kS0:Rnd.S:=Rnd.start hL schL
def kS1 (x:Env.T):Rnd.S:=⟨hL,schL,[x],[[],[]],10,[⟨1,Rnd.subP x 10⟩]⟩
def kS2 (x y:Env.T):Rnd.S:=⟨hL,schL,[y],[[],[]],19,[⟨1,Rnd.subP x 10⟩,⟨1,Rnd.subP y 19⟩]⟩
def kS3 (x y:Env.T):Rnd.S:=⟨hL,schL,[y],[k1L,[]],25,[⟨1,Rnd.subP x 10⟩,⟨1,Rnd.subP y 19⟩,⟨2,Rnd.revP 0 k1L 25⟩]⟩
theorem kGood0:Rnd.Good kS0:=Rnd.good_start hFine sch_ok
section
variable {x y : Env.T} {b c : List UInt8} (hx : KE x 1 b) (hy : KE y 2 c)
include hx
theorem kSub1:Rnd.subE kS0 x 9=8:=by
 unfold Rnd.subE;rw [if_neg (not_not_intro ⟨hx.ok,by decide⟩),if_neg (not_not_intro ⟨by decide,by rw [hx.rnd];decide⟩),hx.rnd,if_pos d9]
theorem kSub2:Rnd.subE kS0 x 10=0:=by
 unfold Rnd.subE;rw [if_neg (not_not_intro ⟨hx.ok,by decide⟩),if_neg (not_not_intro ⟨by decide,by rw [hx.rnd];decide⟩),hx.rnd,if_neg d9,if_neg (show ¬Env.autE kS0.bk x≠0 from not_not_intro hx.aut),if_neg (fun ⟨z,hz,_⟩=>by cases hz),if_neg d9]
theorem kSt1:Rnd.subS kS0 x 9=kS0:=if_neg (by rw [kSub1 hx];decide)
theorem kSt2:Rnd.subS kS0 x 10=kS1 x:=by rw [Rnd.subS,if_pos (kSub2 hx)];rfl
theorem kSub3:Rnd.subE (kS1 x) x 11=11:=by
 unfold Rnd.subE;rw [if_neg (not_not_intro ⟨hx.ok,by decide⟩),if_neg (not_not_intro ⟨by show (10:Int)≤11;decide,by rw [hx.rnd];exact (by decide:(0:Int)≤0∧(0:Int) < 2)⟩),hx.rnd,if_neg (by show ¬Rnd.st kS0 _ 11≠2;decide),if_neg (show ¬Env.autE (kS1 x).bk x≠0 from not_not_intro hx.aut),if_pos ⟨x,m9 rfl,⟨rfl,rfl⟩,Int.le_refl _⟩]
theorem kSt3:Rnd.subS (kS1 x) x 11=kS1 x:=if_neg (by rw [kSub3 hx];decide)
include hy
theorem kSame:Rnd.same x y:=⟨hx.acc.trans hy.acc.symm,hx.rnd.trans hy.rnd.symm⟩
theorem kSub4:Rnd.subE (kS1 x) y 19=0:=by
 unfold Rnd.subE;rw [if_neg (not_not_intro ⟨hy.ok,by decide⟩),if_neg (not_not_intro ⟨by show (10:Int)≤19;decide,by rw [hy.rnd];exact (by decide:(0:Int)≤0∧(0:Int) < 2)⟩),hy.rnd,if_neg (by show ¬Rnd.st kS0 _ 19≠2;decide),if_neg (show ¬Env.autE (kS1 x).bk y≠0 from not_not_intro hy.aut),if_neg,if_neg (by show ¬4096≤1;decide)];rintro ⟨z,hz,_,h⟩;rw [List.mem_singleton.1 hz,hx.ser,hy.ser] at h;omega
theorem kPut:Rnd.put [x] y=[y]:=by
 unfold Rnd.put;rw [List.filter_cons_of_neg (by simpa using kSame hx hy)]
 rfl
theorem kSt4:Rnd.subS (kS1 x) y 19=kS2 x y:=by
 rw [Rnd.subS,if_pos (kSub4 hx hy)];show (⟨hL,schL,Rnd.put [x] y,[[],[]],19,_⟩:Rnd.S)=_;rw [kPut hx hy]
 rfl
omit hx in
theorem kSub5:Rnd.subE (kS2 x y) y 20=8:=by
 unfold Rnd.subE;rw [if_neg (not_not_intro ⟨hy.ok,by decide⟩),if_neg (not_not_intro ⟨by show (19:Int)≤20;decide,by rw [hy.rnd];exact (by decide:(0:Int)≤0∧(0:Int) < 2)⟩),hy.rnd,if_pos (by show Rnd.st kS0 _ 20≠2;decide)]
omit hx in
theorem kSt5:Rnd.subS (kS2 x y) y 20=kS2 x y:=if_neg (by rw [kSub5 hy];decide)
omit hx hy in
theorem kAt1:Rnd.atS (kS2 x y) 0 19=2∧Rnd.atE (kS2 x y) 0 19=0:=⟨by show Rnd.atS kS0 0 19=2;decide,by show Rnd.atE kS0 0 19=0;decide⟩
omit hx hy in
theorem kAt2:Rnd.atS (kS2 x y) 0 20=3∧Rnd.atE (kS2 x y) 0 20=0:=⟨by show Rnd.atS kS0 0 20=3;decide,by show Rnd.atE kS0 0 20=0;decide⟩
omit hx hy in
theorem kBids1:Zy (kS2 x y) 0=8∧Z4 (kS2 x y) 0=[]:=by
 have h:Zy (kS2 x y) 0=8:=by show Zy kS0 0=8;decide
 exact ⟨h,Rnd.bids_no (by rw [h];decide)⟩
omit hx hy in
theorem kRev1:Rnd.revE (kS2 x y) 0 k1L 24=8:=by
 unfold Rnd.revE;rw [if_neg (not_not_intro ⟨by simp,by decide⟩),if_neg (not_not_intro ⟨by show (19:Int)≤24;decide,(by decide:(0:Int)≤0∧(0:Int) < 2)⟩),if_pos (fun h=>absurd h.1 (by show ¬(25:Int)≤24;decide))]
omit hx hy in
theorem kRev2:Rnd.revE (kS2 x y) 0 k2L 25=10:=by
 unfold Rnd.revE;rw [if_neg (not_not_intro ⟨by simp,by decide⟩),if_neg (not_not_intro ⟨by show (19:Int)≤25;decide,(by decide:(0:Int)≤0∧(0:Int) < 2)⟩),if_neg (not_not_intro ⟨by show (25:Int)≤25;decide,rfl⟩),if_pos (show Env.comB k2L≠(Rnd.winAt (kS2 x y).ws (Int.toNat 0)).cm from com_ne)]
omit hx hy in
theorem kRev3:Rnd.revE (kS2 x y) 0 k1L 25=0:=by
 unfold Rnd.revE;rw [if_neg (not_not_intro ⟨by simp,by decide⟩),if_neg (not_not_intro ⟨by show (19:Int)≤25;decide,(by decide:(0:Int)≤0∧(0:Int) < 2)⟩),if_neg (not_not_intro ⟨by show (25:Int)≤25;decide,rfl⟩),if_neg (show ¬Env.comB k1L≠(Rnd.winAt (kS2 x y).ws (Int.toNat 0)).cm from not_not_intro rfl),if_neg (by show ¬4096≤2;decide)]
omit hx hy in
theorem kRv1:Rnd.revS (kS2 x y) 0 k1L 24=kS2 x y:=if_neg (by rw [kRev1];decide)
omit hx hy in
theorem kRv2:Rnd.revS (kS2 x y) 0 k2L 25=kS2 x y:=if_neg (by rw [kRev2];decide)
omit hx hy in
theorem kRv3:Rnd.revS (kS2 x y) 0 k1L 25=kS3 x y:=by rw [Rnd.revS,if_pos kRev3];rfl
omit hx hy in
theorem kRev4:Rnd.revE (kS3 x y) 0 k1L 26=8:=by
 unfold Rnd.revE;rw [if_neg (not_not_intro ⟨by simp,by decide⟩),if_neg (not_not_intro ⟨by show (25:Int)≤26;decide,(by decide:(0:Int)≤0∧(0:Int) < 2)⟩),if_pos (fun h=>absurd h.2 (by show ¬k1L=[];decide))]
omit hx hy in
theorem kRv4:Rnd.revS (kS3 x y) 0 k1L 26=kS3 x y:=if_neg (by rw [kRev4];decide)
omit hx in
theorem kOf2:Yu (kS3 x y) 0=[y]:=by
 have h0:Rnd.has (kS3 x y) 0:=(by decide:(0:Int)≤0∧(0:Int) < 2);rw [Yu,if_pos h0]
 have g1:Rnd.getE [y] 0 nmA=some y:=by
  unfold Rnd.getE;rw [List.find?_cons_of_pos (by simp [hy.rnd,hy.acc])]
 have g2:Rnd.getE [y] 0 nmB=none:=by
  unfold Rnd.getE;rw [List.find?_cons_of_neg (by rw [hy.rnd,hy.acc];decide)]
  rfl
 have g3:Rnd.getE [y] 0 nmC=none:=by
  unfold Rnd.getE;rw [List.find?_cons_of_neg (by rw [hy.rnd,hy.acc];decide)]
  rfl
 show [nmA,nmB,nmC].filterMap (Rnd.getE [y] 0)=[y];rw [List.filterMap_cons_some g1,List.filterMap_cons_none g2,List.filterMap_cons_none g3]
 rfl
omit hx in
theorem kBids2:Zy (kS3 x y) 0=0∧Z4 (kS3 x y) 0=[⟨nmA,2,c,false⟩]:=by
 have h:Zy (kS3 x y) 0=0:=by
  unfold Zy;rw [if_neg (show ¬ ¬Rnd.has (kS3 x y) 0 from not_not_intro (by decide:(0:Int)≤0∧(0:Int) < 2)),if_neg (by show ¬k1L=[];decide)]
 refine ⟨h,?_⟩;rw [Z4,if_pos h,yF,kOf2 hy];show [Rnd.opn hL k1L y]=_;unfold Rnd.opn;rw [hy.acc,hy.ser,hy.op1,hy.op2]
 rfl
omit hx hy in
theorem kKinds:(kS3 x y).en.map Led.Ent.kind=[1,1,2]:=rfl
end
theorem ZQ {gb:Nat} {l:List Acc.T} {F:LN} (nm:LB) (rnd ser:Int) (key bid:LB) (hf:Acc.Fine l):ConR Tryz.prog 23 [.r F (bkP gb l)] [pA gb,yp nm,iD rnd,iD ser,bD key,bD bid] (fun F':LN=>[.r F' (bkP gb l)]) (fun _=>Zn (YT (Rnd.sld l nm rnd ser key bid))):=
 ConR.bkK fun s=>con_sealed gb s l nm rnd ser key bid hf
theorem con_submitT {gr:Nat} {F:LN} {s s':Rnd.S} {e:Env.T} {now E:Int} (hg:Rnd.Good s) (hs:Rnd.subS s e now=s') (hE:Rnd.subE s e now=E):ConR Tryz.prog 22 [.r F (yZ gr s)] [pA gr,Zn [yp e.acc,iD e.rnd,iD e.ser,bD e.box,bD e.tag],iD now] (fun F':LN=>[.r F' (yZ gr s')]) (fun _=>iD E):=by
 subst hs hE;exact con_submit gr F s e now hg
theorem con_revealT {gr:Nat} {F:LN} {s s':Rnd.S} {r:Int} {key:LB} {now E:Int} (hg:Rnd.Good s) (hs:Rnd.revS s r key now=s') (hE:Rnd.revE s r key now=E) (hk:key.length≤1000000):ConR Tryz.prog 39 [.r F (yZ gr s)] [pA gr,iD r,bD key,iD now] (fun F':LN=>[.r F' (yZ gr s')]) (fun _=>iD E):=by
 subst hs hE;exact con_reveal gr F s r key now hg hk
theorem con_stateT {gr:Nat} {F:LN} {s:Rnd.S} {r now S E:Int} (h:Rnd.atS s r now=S∧Rnd.atE s r now=E):ConR Tryz.prog 16 [.r F (yZ gr s)] [pA gr,iD r,iD now] (fun F':LN=>[.r F' (yZ gr s)]) (fun _=>Yv [iD S,iD E]):=by
 obtain ⟨rfl,rfl⟩:=h;exact con_stateR gr F s r now
theorem con_bidsT {gr:Nat} {F:LN} {s:Rnd.S} {r E:Int} {l:List Rnd.Opn} (hg:Rnd.Good s) (h:Zy s r=E∧Z4 s r=l):ConR Tryz.prog 43 [.r F (yZ gr s)] [pA gr,iD r] (fun F':LN=>[.r F' (yZ gr s)]) (fun _=>Yv [lsD encO l,iD E]):=by
 obtain ⟨rfl,rfl⟩:=h;exact con_bids gr F s r hg
theorem bldOp3 {a b:LB} {n:Int}:Bld Tryz.prog 110 [0,1,2] [yp a,iD n,bD b] [yp a,iD n,bD b,isD (.bool false)]:=fun L w vs hv=>by
 obtain ⟨u,v,z,rfl,rfl,rfl,h⟩:=all3 hv;have h':=h;obtain ⟨A,c,rfl,-⟩:=h;exact ⟨[.string _,.int .i64 n,.slice A _ c,.bool false],⟨V,V,h',V,t9⟩,fun w'=>by kernel_rfl⟩
theorem kGood1 {x:Env.T} {b:LB} (hx:KE x 1 b):Rnd.Good (kS1 x):=kSt2 hx ▸ kGood0.sub x 10
theorem kGood2 {x y:Env.T} {b c:LB} (hx:KE x 1 b) (hy:KE y 2 c):Rnd.Good (kS2 x y):=kSt4 hx hy ▸ (kGood1 hx).sub y 19
theorem kGood3 {x y:Env.T} {b c:LB} (hx:KE x 1 b) (hy:KE y 2 c):Rnd.Good (kS3 x y):=kRv3 (x:=x) (y:=y) ▸ (kGood2 hx hy).rev 0 k1L 25
theorem blsJ3 {a b c:Int}:Bls Tryz.prog 112 3 [0,1,2] [iD a,iD b,iD c] ([a,b,c].flatMap encI):=⟨3,fun L w vs hv=>by
 obtain ⟨u,v,z,rfl,rfl,rfl,rfl⟩:=all3 hv
 exact ⟨[.int .i64 _,.int .i64 _,.int .i64 _],⟨V,V,V,t9⟩,fun w'=>by kernel_rfl⟩⟩
theorem con_known44:ConN Tryz.prog 9 [] (yc true):=by
 refine yJ Tryz.func9 k9 V k9 fun base w0=>(zh (zb (za V (zg V) (zf (zc (zh (zb (zl (S:=[]) (zx [] (con_given) V t9 d9 t9 (fun _ h=>h) V) ?_))))))));rintro _ ⟨⟨g1,s1⟩,rfl⟩;refine za V (ze V) (za V (zr V V) (za V (zr V V) (zl (S:=[]) (zH (zs:=[.slice none 0 0]) k9 V) ?_)));rintro _ ⟨g2,rfl⟩;refine za V (zg V) (zl (S:=[_]) (zC 4 V V V k9 V (m9 V)) ?_);rintro _ rfl;refine zf (zc (zh (zM (bk_in (gb:=g1) (l:=hL) s1) [0,1,2,3] d9 (sX V) ?_)));rintro _ ⟨Fb,rfl⟩;refine zb (za V (ze V) (zl (S:=[]) (yg (con_schedule) V t9 V) ?_));rintro _ rfl;refine zl (zx [1] (con_new g1 hL Fb schL hFine sch_ok) V ⟨zd _,zd _,t9⟩ d9 ⟨lR V,t9⟩ (fun _ h=>h) V) ?_;rintro _ ⟨⟨F24,gr,H24⟩,rfl⟩;refine za V (ze V) (za V (zr V V) (za V (zr V V) (za V (zg V) (za V (zg V) (zf (zc (zh (zh (zb (za V (ze V) (za V (YO V V k9) (za V (ze V) (zm V V (V) V V (ze V) (zm V V (V) V V (zX V V) (za V (zy V (V) V) (zf (zc (zB V d9 (zu (zc (zh (zb (zl (S:=[]) (yg (Ya 1 32 d9) V ⟨zd _,zd _,t9⟩ V) ?_)))))))))))))))))))))))
 rintro _ rfl;refine zl (S:=[]) (yg (Ya 2 32 d9) V ⟨zd _,zd _,t9⟩ V) ?_;rintro _ rfl;refine za V (zg V) (za V (zg V) (zf (zc (zh (zQ (σ':=zK [(1,pA g1),(3,pA gr),(5,bD k1L),(6,bD k2L)] [.r F24 (bkP g1 hL),.r H24 (yZ gr kS0)]) (sB [1,2] V V) (zb (za V (ze V) (za V (ze V) (zl (S:=[]) (Ef.litV (e:=5) (b:=[104,105]) V V V d9 (fun w=>by kernel_rfl) rfl) ?_)))))))));rintro _ ⟨g37,rfl⟩;refine zl (Ef.mark (e:=5) 2 V V k9 k9 d9 (fun _ h=>h) V) ?_;rintro _ rfl;refine zl (zx [0] (ZQ nmA 0 1 k1L [104,105] hFine) V ⟨zd _,zd _,zd _,zd _,zd _,zd _,t9⟩ d9 ⟨lR V,t9⟩ (fun _ h=>h) V) ?_;rintro _ ⟨F39,rfl⟩;refine za V (ze V) (za V (ze V) (zl (S:=[]) (Ef.litV (e:=5) (b:=[104,111]) V V V d9 (fun w=>by kernel_rfl) rfl) ?_));rintro _ ⟨g42,rfl⟩;refine zl (Ef.mark (e:=5) 2 V V k9 k9 d9 (fun _ h=>h) V) ?_;rintro _ rfl;refine zl (zx [1] (ZQ nmA 0 2 k1L [104,111] hFine) V ⟨zd _,zd _,zd _,zd _,zd _,zd _,t9⟩ d9 ⟨lR V,t9⟩ (fun _ h=>h) V) ?_;rintro _ ⟨F44,rfl⟩;refine zl (S:=[]) (zH (zs:=[.string ⟨#[]⟩,.int .i64 0,.int .i64 0,.slice none 0 0,.slice none 0 0]) k9 V) ?_
 rintro _ ⟨g7,rfl⟩;refine zl (S:=[]) (zH (zs:=[.string ⟨#[]⟩,.int .i64 0,.int .i64 0,.slice none 0 0,.slice none 0 0]) k9 V) ?_;rintro _ ⟨g8,rfl⟩;refine zl (S:=[_]) (zC 2 V V V k9 V (m9 V)) ?_;rintro _ rfl;refine zl (S:=[_]) (zC 3 V V V k9 V (m9 V)) ?_;rintro _ rfl;refine zf (zc (zh (zh ?_)));obtain ⟨x,hxe⟩:∃ x,x=Rnd.sld hL nmA 0 1 k1L [104,105]:=⟨_,rfl⟩;obtain ⟨y,hye⟩:∃ y,y=Rnd.sld hL nmA 0 2 k1L [104,111]:=⟨_,rfl⟩
 have hx:KE x 1 [104,105]:=by rw [hxe];exact ke d9 d9
 have hy:KE y 2 [104,111]:=by rw [hye];exact ke d9 d9
 refine zQ (σ':=zK [(3,pA gr),(5,bD k1L),(6,bD k2L),(7,pA g7),(8,pA g8)] [.r H24 (yZ gr kS0),.c g7 [yp x.acc,iD x.rnd,iD x.ser,bD x.box,bD x.tag],.c g8 [yp y.acc,iD y.rnd,iD y.ser,bD y.box,bD y.tag]]) (⟨⟨_,V,(sT V)⟩,[0,2,3],by decide,⟨lR rfl,⟨⟨_,rfl,(by rw [hxe];exact yl _)⟩,⟨⟨_,rfl,(by rw [hye];exact yl _)⟩,trivial⟩⟩⟩⟩) (zb (za rfl (ze rfl) (za rfl (zG 1 5 rfl rfl k9 rfl zn) (zl (zx [0] (con_submitT kGood0 (kSt1 hx) (kSub1 hx)) rfl ⟨zd _,zd _,zd _,trivial⟩ d9 ⟨lR rfl,trivial⟩ (fun _ h=>h) rfl) ?_))));rintro _ ⟨F47,rfl⟩;refine za V (zX V V) (za V (ze V) (zm V V d9 V V (ze V) (zm V V d9 V V (zG 0 5 V V k9 V zn) (Ze V V d9 V (zx [2] (con_submitT kGood0 (kSt2 hx) (kSub2 hx)) V ⟨zd _,zd _,zd _,t9⟩ d9 ⟨lR V,t9⟩ (fun _ h=>h) V) ?_))));rintro _ ⟨F52,rfl⟩;refine zm V V d9 V V (zX V V) (za V (zy V d9 V) (za V (ze V) (zm V V d9 V V (ze V) (zm V V d9 V V (zG 0 5 V V k9 V zn) (Ze V V d9 V (zx [2] (con_submitT (kGood1 hx) (kSt3 hx) (kSub3 hx)) V ⟨zd _,zd _,zd _,t9⟩ d9 ⟨lR V,t9⟩ (fun _ h=>h) V) ?_)))))
 rintro _ ⟨F58,rfl⟩;refine zm V V d9 V V (zX V V) (za V (zy V d9 V) (za V (ze V) (zm V V d9 V V (ze V) (zm V V d9 V V (zG 1 5 V V k9 V zn) (Ze V V d9 V (zx [2] (con_submitT (kGood1 hx) (kSt4 hx hy) (kSub4 hx hy)) V ⟨zd _,zd _,zd _,t9⟩ d9 ⟨lR V,t9⟩ (fun _ h=>h) V) ?_)))));rintro _ ⟨F64,rfl⟩;refine zm V V d9 V V (zX V V) (za V (zy V d9 V) (za V (ze V) (zm V V d9 V V (ze V) (zm V V d9 V V (zG 1 5 V V k9 V zn) (Ze V V d9 V (zx [2] (con_submitT (kGood2 hx hy) (kSt5 hy) (kSub5 hy)) V ⟨zd _,zd _,zd _,t9⟩ d9 ⟨lR V,t9⟩ (fun _ h=>h) V) ?_)))));rintro _ ⟨F70,rfl⟩;refine zm V V d9 V V (zX V V) (za V (zy V d9 V) (zf (zc (zB V d9 (zu (zc (zh (zQ (σ':=zK [(3,pA gr),(5,bD k1L),(6,bD k2L)] [.r F70 (yZ gr (kS2 x y))]) (sB [2] V V) (zb (za V (ze V) (zl (zx [0] (con_stateT kAt1) V ⟨zd _,zd _,zd _,t9⟩ d9 ⟨lR V,t9⟩ (fun _ h=>h) V) ?_)))))))))));rintro _ ⟨F75,rfl⟩;refine za V (ze V) (za V (zr V V) (za V (zr V V) (za V (zg V) (za V (zg V) (zf (zc (zh (zb (za V (ze V) (zl (zx [0] (con_stateT kAt2) V ⟨zd _,zd _,zd _,t9⟩ d9 ⟨lR V,t9⟩ (fun _ h=>h) V) ?_))))))))))
 rintro _ ⟨F80,rfl⟩;refine za V (ze V) (za V (zr V V) (za V (zr V V) (za V (zg V) (za V (zg V) (zf (zc (zh (zb (za V (ze V) (zl (zx [0] (con_bidsT (kGood2 hx hy) kBids1) V ⟨zd _,zd _,t9⟩ d9 ⟨lR V,t9⟩ (fun _ h=>h) V) ?_))))))))));rintro _ ⟨F85,rfl⟩;refine za V (ze V) (za V (zr V V) (za V (zr V V) (za V (zg V) (za V (zg V) (zf (zc (zh (zh (zQ (σ':=zK [(3,pA gr),(5,bD k1L),(6,bD k2L),(9,iD 2),(10,iD 0),(11,iD 3),(12,iD 0),(14,iD 8)] [.r F85 (yZ gr (kS2 x y))]) (sB [0] V V) (zb (za V (ze V) (za V (zX V V) (za V (ze V) (zm V V d9 V V (ze V) (zm V V d9 V V (zX V V) (za V (zy V d9 V) (za V (ze V) (zm V V d9 V V (ze V) (zm V V d9 V V (zX V V) (za V (zy V d9 V) (za V (ze V) (zm V V d9 V V (ze V) (zm V V d9 V V (zX V V) (za V (zy V d9 V) (za V (ze V) (zm V V d9 V V (ze V) (zm V V d9 V V (zX V V) (za V (zy V d9 V) (zf (zc (zB V d9 (zu (zc (zh (zh (zQ (σ':=zK [(3,pA gr),(5,bD k1L),(6,bD k2L)] [.r F85 (yZ gr (kS2 x y))]) (sB [0] V V) (zb (za V (ze V) (za V (ze V) ?_)))))))))))))))))))))))))))))))))))))))
 refine zl (zx [0] (con_revealT (kGood2 hx hy) kRv1 kRev1 s9) V ⟨zd _,zd _,zd _,zd _,t9⟩ d9 ⟨lR V,t9⟩ (fun _ h=>h) V) ?_;rintro _ ⟨F108,rfl⟩;refine za V (zX V V) (za V (ze V) (zm V V d9 V V (ze V) (zm V V d9 V V (ze V) (Ze V V d9 V (zx [0] (con_revealT (kGood2 hx hy) kRv2 kRev2 s9) V ⟨zd _,zd _,zd _,zd _,t9⟩ d9 ⟨lR V,t9⟩ (fun _ h=>h) V) ?_))));rintro _ ⟨F113,rfl⟩;refine zm V V d9 V V (zX V V) (za V (zy V d9 V) (za V (ze V) (zm V V d9 V V (ze V) (zm V V d9 V V (ze V) (Ze V V d9 V (zx [0] (con_revealT (kGood2 hx hy) kRv3 kRev3 s9) V ⟨zd _,zd _,zd _,zd _,t9⟩ d9 ⟨lR V,t9⟩ (fun _ h=>h) V) ?_)))));rintro _ ⟨F119,rfl⟩;refine zm V V d9 V V (zX V V) (za V (zy V d9 V) (za V (ze V) (zm V V d9 V V (ze V) (zm V V d9 V V (ze V) (Ze V V d9 V (zx [0] (con_revealT (kGood3 hx hy) kRv4 kRev4 s9) V ⟨zd _,zd _,zd _,zd _,t9⟩ d9 ⟨lR V,t9⟩ (fun _ h=>h) V) ?_)))));rintro _ ⟨F125,rfl⟩;refine zm V V d9 V V (zX V V) (za V (zy V d9 V) (zf (zc (zB V d9 (zu (zc (zh (zQ (σ':=zK [(3,pA gr)] [.r F125 (yZ gr (kS3 x y))]) (sB [0] V V) (zb (za V (ze V) (zl (zx [0] (con_bidsT (kGood3 hx hy) (kBids2 hy)) V ⟨zd _,zd _,t9⟩ d9 ⟨lR V,t9⟩ (fun _ h=>h) V) ?_)))))))))))
 rintro _ ⟨F130,rfl⟩;refine za V (ze V) (za V (zr V V) (za V (zr V V) (za V (zg V) (za V (zg V) (zf (zc (zh (zQ (σ':=zK [(3,pA gr),(15,lsD encO [(⟨nmA,2,[104,111],false⟩:Rnd.Opn)]),(16,iD 0)] [.r F130 (yZ gr (kS3 x y))]) (sB [0] V V) (zb (za V (ze V) (za V (yY V V) (za V (ze V) (zm V V d9 V V (ze V) (Ze (S:=[]) V V d9 V (Ef.litV (e:=5) (b:=[104,111]) V V V d9 (fun w=>by kernel_rfl) rfl) ?_))))))))))))));rintro _ ⟨g137,rfl⟩;refine Ze V V d9 V (Ef.mark (e:=5) 1 V V k9 k9 d9 (fun _ h=>h) V) ?_;rintro _ rfl;refine zm V V d9 V V (yr V V bldOp3) (Ze (S:=[]) V V d9 V (ZB V V (blsO1 (⟨nmA,2,[104,111],false⟩:Rnd.Opn)) V) ?_);rintro _ rfl;refine Ze (S:=[]) V V d9 V (zz [] (con_Same44 [(⟨nmA,2,[104,111],false⟩:Rnd.Opn)] [(⟨nmA,2,[104,111],false⟩:Rnd.Opn)] d9) V ⟨(zq (zd _)),(zq (zd _)),t9⟩ V) ?_;rintro _ rfl;refine za V (zD V d9 V) (za V (ze V) (zm V V d9 V V (ze V) (Ze V V d9 V (zx [0] (con_clock gr F130 (kS3 x y)) V ⟨zd _,t9⟩ d9 ⟨lR V,t9⟩ (fun _ h=>h) V) ?_)));rintro _ ⟨F145,rfl⟩
 refine zm V V d9 V V (yY V V) (za V (zD V d9 V) (za V (ze V) (zm V V (V) V V (ze V) (Ze V V (V) V (zx [0] (YH gr F145 (kS3 x y) (kGood3 hx hy)) V ⟨zd _,t9⟩ d9 ⟨lR V,t9⟩ (fun _ h=>h) V) ?_))));rintro _ ⟨⟨F150,gL,H150⟩,rfl⟩;refine SWl.opensP (ld_out (gl:=gL) (es:=(kS3 x y).en)) [1] d9 ⟨lR V,t9⟩ ?_;rintro _ ⟨u,rfl⟩;refine Ze (S:=[]) V V (V) V (ZB V V blsJ3 V) ?_;rintro _ rfl;refine Ze (S:=[]) V V (V) V (zz [1,2,3] (con_kinds (kS3 x y).en [1,1,2] (by show 3≤100000;decide) (fun e he=>by have:=((kGood3 hx hy).fit e he).2.2;omega)) rfl ⟨(yn 1 rfl d9 ⟨(Zl 2 rfl d9),(YD 3 rfl d9),trivial⟩),(zq (zd _)),trivial⟩ rfl) ?_;rintro _ rfl;refine za V (zD V (V) V) (za V (zg V) (zf (zc (zR (fn:=Tryz.f9) (fun _ _ h=>h) (Rs.le (Rs.one V (zp V)) ?_)))));exact ym (by rw [kKinds];rfl)
end Sx
end Go.Proofs.YtgokpcnabgacnaaGreatDoor
