/- TOP: activity: Limit, Settle. TOP: valid bids. WALKING CODE BY WHAT IS KNOWN: fields of the elements of a slice of one's own. Over any program. -/
import Derived.Test.YtfoafihodanmhaaGreatDoorGZBC
set_option maxHeartbeats 8000000
set_option maxRecDepth 100000
namespace Go.Proofs.YtfoafihodanmhaaGreatDoor
open Go.RowKit
namespace Sx
section
theorem con_room (l:List Tp.Pr) (b:Tp.Bd) (F:LN) (A:Option Addr) (c:Nat) (hl:l.length≤1000000) (hv:jv l) (hb:Tp.OkB l (-1) b) (k:Nat) (p:Tp.Pr) (hp:l[k]? =some p):ConR Tryz.prog 154 [.r F<|yi 3 1 z7 A c b.bl] [Z8 [iD b.id,iD b.el,iD b.wv,isD<|.slice A b.bl.length c,iD<|YO l b.bl],lsD yA l,iD (k:Int)] (fun _:Unit=>[.r F<|yi 3 1 z7 A c b.bl]) (fun _:Unit=>iD<|jk l b p k):=by
 have hlen:=hb.fi.len;have hus:0≤YO l b.bl∧YO l b.bl≤1200000 * (b.bl.length:Int):=j4 hv hb.fi _ (Js _);have he0:=hb.e0;have he1:=hb.e1;have hun:=hb.un;have hkl:=(Jg.1 hp).1;obtain ⟨n0,hn0⟩:∃ n,b.bl[k]? =some n:=⟨_,Je o9⟩;have hnb:=hb.fi.ok k p n0 hp hn0;have hpo:=(hv k p hp).ok;have hp1:=hpo.2.2.1;have hp2:=hpo.2.2.2.1
 refine yt Tryz.func154 k9 I k9 fun base w0=>(zn (SWl.e2 (S:=[]) (ym I I) fun g3=>(zf I<|zN<|zd I<|zd I<|za I (zU (e:=61) 5 I I k9 k9 o9 (by simpa using hp))<|za I (yn 5 I k9 d9 (show 5≤5 by decide) s9) (SWl.e2 (S:=[]) (Ef.alloc (zs:=[.int .i64 0,.int .i64 0,.int .i64 0,.int .i64 0,.int .i64 0]) k9 I) fun g7=>(zu (S:=[_]) (zA 2 I I I k9 I<|m9 I)<|ze<|zh<|yl [] (rr [0,1,2,3,4,5,6,7,8,9,10,11,12,13,14,15,16,17,18,19] .fin) k9 k9 (fun d _ _ _ _ h=>by cases d <;> exact h)<|zl I I (zg (n:=2) I k9)<|zl I I (zp 2 I I I k9 zm)<|zl I I (zg (n:=0) I k9)<|zl I I (zg (n:=3) I k9)<|zl I I (zp 1 I I I k9 zm)<|zz I I<|zl I I (yf 0 1 I I I k9 k9 o9 o9)<|zl I I (yr 0 I I k9 hn0 I zm)<|zl I I (yG I I ⟨by omega,by omega⟩)<|zl I I (zg (n:=0) I k9)<|zl I I (zg (n:=1) I k9)<|zl I I (zp 1 I I I k9 zm)<|zl I I (zg (n:=4) I k9)<|zl I I (zp 1 I I I k9 zm)<|zl I I (yG I I ⟨by omega,by omega⟩)<|zl I I (zg (n:=3) I k9)<|zl I I (zp 2 I I I k9 zm)<|zl I I (Kq I I ⟨by omega,by omega,by omega⟩)<|zl I I (zdy I I)<|yR I I<|y9 ?_)))))
 refine zj (zV (fn:=Tryz.f154) (()) [0] (fun _ _ h=>h) (Rs.le (zG I<|zk I) ?_) d9 ⟨lR I,t9⟩);exact zI (by rw [jk,Ym hn0])
theorem con_req (el pc:Int) (h0:0≤el) (h1:el≤76800000) (h2:1≤pc) (h3:pc≤100):Con Tryz.prog 156 [iD el,iD pc] (ZH [iD<|(el * pc + 99) / 100,iD 0]):=by
 have hm:=Tp.mul_pc h0 h1 h2 h3;refine yy Tryz.func156 k9 I k9 fun base w0=>(zn<|zf I<|zf I<|ze<|zh<|zn<|zd I<|zu (S:=[]) (zv (ql (el) (0)<|76800000) I ⟨zc _,zc _,zc _,t9⟩ I)<|za I (yu I)<|zd I<|yI I I (by simp [h0,h1]) I I (zH I)<|yN (S:=[]) I I (by simp [h0,h1]) I (zv (ql (pc) (1)<|100) I ⟨zc _,zc _,zc _,t9⟩ I) ?_);rintro _ rfl;refine yI I I (by simp [h0,h1]) I I (yu I) (za I (zw I (by simp [h0,h1]) I)<|ze<|zK I (by simp [h2,h3])<|zq<|zj<|zn<|zd I<|zd I<|za I (Rd.mul I I ⟨by omega,by omega⟩)<|za I (Rd.add I I ⟨by omega,by omega⟩)<|za I (Kq I I ⟨by omega,by omega,by decide⟩)<|zf I<|zf I<|ze<|zO (fn:=Tryz.f156) (fun _ _ h=>h)<|Rs.le (Rs.two I (zk I)<|zk I) ?_);exact zc _
theorem con_keepA (el wv u pc:Int) (h0:0≤el) (h1:el≤76800000) (h2:1≤pc) (h3:pc≤100) (v0:0≤wv) (v1:wv≤3) (u0:0≤u) (u1:u≤el):Con Tryz.prog 129 [iD el,iD wv,iD u,iD pc] (ZH [iD (Tp.keep el wv u pc).1,iD (Tp.keep el wv u pc).2,iD 0]):=by
 refine yy Tryz.func129 k9 I k9 fun base w0=>(zn<|zf I<|zf I<|zf I<|zN<|zd I<|zd I<|zu (S:=[]) (zv (con_req el pc h0 h1 h2 h3) I ⟨zc _,zc _,t9⟩ I)<|zd I<|za I (zo I I)<|za I (zo I I)<|zf I<|zf I<|ze<|zh<|zn<|zd I<|za I (yv I I)<|zd I<|yI I I (by rfl) I I (zH I)<|yN (S:=[]) I I (by rfl) I (zv (ql (wv) (0)<|3) I ⟨zc _,zc _,zc _,t9⟩ I) ?_);rintro _ rfl;refine yI I I (by rfl) I I (yu I) (za I (zw I (by rfl) I)<|zd I<|yI I I (by simp [v0,v1]) I I (zH I)<|yI I I (by simp [v0,v1]) I I (zH I)<|yN (S:=[]) I I (by simp [v0,v1]) I (zv (ql (u) (0)<|el) I ⟨zc _,zc _,zc _,t9⟩ I) ?_);rintro _ rfl;refine yI I I (by simp [v0,v1]) I I (yu I) (za I (zw I (by simp [v0,v1]) I)<|ze<|zK I (by simp [u0,u1])<|zq<|zj<|zh<|SW.block<|zn<|zd I<|zd I<|za I (YF I I)<|zf I<|ze<|zC I (fun hb32=> ?_) (fun hb32=> ?_))
 ·have h32:(el * pc + 99) / 100≤u:=oT hb32;refine zn (zd I<|zd I<|zf I<|zf I<|zf I<|ze<|zO (fn:=Tryz.f129) (fun _ _ h=>h)<|Rs.le (j6 I (zk I) (zk I)<|zk I) ?_);exact Zf ⟨zI (by rw [Tp.keep,Jh h32]),zI (by rw [Tp.keep,Jh h32]),zc _,t9⟩
 ·have h32:¬(el * pc + 99) / 100≤u:=oF hb32;refine zn (zd I<|za I (yV I I)<|zf I<|ze<|zC I (fun hb38=> ?_) (fun hb38=> ?_))
  ·have h38:wv > 0:=oT hb38;refine zn (zd I<|zd I<|za I (yG I I ⟨by omega,by omega⟩)<|zf I<|zf I<|zf I<|ze<|zO (fn:=Tryz.f129) (fun _ _ h=>h)<|Rs.le (j6 I (zk I) (zk I)<|zk I) ?_);exact Zf ⟨zI (by rw [Tp.keep,Jb h32,Jh h38]),zI (by rw [Tp.keep,Jb h32,Jh h38]),zc _,t9⟩
  ·have h38:¬wv > 0:=oF hb38;refine zq (SN.block<|zj<|zn<|zd I<|za I (Rd.mul I I ⟨by omega,by omega⟩)<|zd I<|za I (Kq I I ⟨by omega,by omega,by omega⟩)<|zf I<|zf I<|zf I<|ze<|zO (fn:=Tryz.f129) (fun _ _ h=>h)<|Rs.le (j6 I (zk I) (zk I)<|zk I) ?_);exact Zf ⟨zI (by rw [Tp.keep,Jb h32,Jb h38]),zI (by rw [Tp.keep,Jb h32,Jb h38]),zc _,t9⟩
theorem con_limit (l:List Tp.Pr) (b:Tp.Bd) (F:LN) (A:Option Addr) (c:Nat) (hl:l.length≤1000000) (hv:jv l) (hb:Tp.OkB l (-1) b) (k:Nat) (p:Tp.Pr) (hp:l[k]? =some p) (n:Int) (hn:0 < n):ConR Tryz.prog 127 [.r F<|yi 3 1 z7 A c b.bl] [lsD yA l,Z8 [iD b.id,iD b.el,iD b.wv,isD<|.slice A b.bl.length c],iD (k:Int),iD n] (fun _:Unit=>[.r F<|yi 3 1 z7 A c b.bl]) (fun _:Unit=>ZH [iD<|min n<|jk l b p k,iD 0]):=by
 have hkl:=(Jg.1 hp).1;refine yt Tryz.func127 k9 I k9 fun base w0=>(zn (SWl.e2 (S:=[]) (ym I I) fun g5=>(zf I<|zf I<|zN<|zd I<|za I (zx 1 4 I I k9 I zm) (SWl.e2 (yh [0] (zeh l b F A c hl hv hb) I ⟨zc _,zc _,t9⟩ d9 ⟨lR I,t9⟩ (fun _ h=>h) I) fun _=>(zd I<|za I (zo I I)<|za I (zo I I) (SWl.e2 (S:=[]) (Ef.alloc (zs:=[.int .i64 0,.int .i64 0,.int .i64 0,.slice none 0 0,.int .i64 0]) k9 I) fun g10=>(zu (S:=[_]) (zA 2 I I I k9 I<|m9 I)<|zf I<|ze<|zh<|zn<|zd I<|za I (yu I)<|zd I<|zJ I (zH I)<|zJ I (zH I)<|zJ I (zT (e:=61) I k9)<|zJ I (yG I I ⟨by omega,by omega⟩)<|yN (S:=[]) I I I I (zv (ql ((k:Int)) (0)<|(l.length:Int) - 1) I ⟨zc _,zc _,zc _,t9⟩ I) ?_)))))));rintro _ rfl;refine zJ I (yu I) (za I (zw I I I)<|ze<|zK I (by simp;omega)<|zq<|zj<|zh<|zn<|zd I<|za I (yV I I)<|ze<|yj I (Jo hn)<|zn<|zd I<|za I (zx 2 5 I I k9 I zm)<|zd I<|zd I (SWl.e2 (yh [1] (con_room l b F A c hl hv hb k p hp) I ⟨zc _,zc _,zc _,t9⟩ d9 ⟨lR I,t9⟩ (fun _ h=>h) I) fun _=>(za I (zdy I I)<|zf I<|zf I<|ze<|zV (fn:=Tryz.f127) (()) [2] (fun _ _ h=>h) (Rs.le (Rs.two I (zk I)<|zk I) ?_) d9 ⟨lR I,t9⟩)))
 exact zc _
theorem zaN (l:List Tp.Pr) (b:Tp.Bd) (F:LN) (A:Option Addr) (c:Nat) (hl:l.length≤1000000) (hv:jv l) (hb:Tp.OkB l (-1) b) (pc:Int) (h2:1≤pc) (h3:pc≤100):ConR Tryz.prog 87 [.r F<|yi 3 1 z7 A c b.bl] [lsD yA l,Z8 [iD b.id,iD b.el,iD b.wv,isD<|.slice A b.bl.length c],iD pc] (fun _:Unit=>[.r F<|yi 3 1 z7 A c b.bl]) (fun _:Unit=>ZH [Z8<|yK ⟨b.id,(Tp.keep b.el b.wv (YO l b.bl) pc).1,(Tp.keep b.el b.wv (YO l b.bl) pc).2,b.bl⟩,iD 0]):=by
 have hlen:=hb.fi.len;have hus:0≤YO l b.bl∧YO l b.bl≤1200000 * (b.bl.length:Int):=j4 hv hb.fi _ (Js _);have he0:=hb.e0;have he1:=hb.e1;have hun:=hb.un;refine yt Tryz.func87 k9 I k9 fun base w0=>(zn (SWl.e2 (S:=[]) (ym I I) fun g4=>(SWl.e2 (S:=[]) (Ef.alloc (zs:=[.int .i64 0,.int .i64 0,.int .i64 0,.slice none 0 0]) k9 I) fun g6=>(zf I<|zN<|zd I<|za I (zx 1 4 I I k9 I zm) (SWl.e2 (yh [0] (zeh l b F A c hl hv hb) I ⟨zc _,zc _,t9⟩ d9 ⟨lR I,t9⟩ (fun _ h=>h) I) fun _=>(zd I<|za I (zo I I)<|za I (zo I I) (SWl.e2 (S:=[]) (Ef.alloc (zs:=[.int .i64 0,.int .i64 0,.int .i64 0,.slice none 0 0,.int .i64 0]) k9 I) fun g8=>(zu (S:=[_]) (zA 3 I I I k9 I<|m9 I)<|zf I<|ze<|zh<|zn<|zd I<|za I (yu I)<|ze<|zK I I<|zq<|zj<|zn<|za I (zg (n:=0) I k9)<|za I (zg (n:=1) I k9)<|za I (zp 3 I I I k9 zm)<|za I (zg (n:=0) I k9)<|za I (zg (n:=2) I k9)<|za I (zp 3 I I I k9 zm)<|za I (zg (n:=4) I k9) ?_))))))))
 refine za I (zp 3 I I I k9 zm) (zd I<|zu (S:=[]) (zv (con_keepA b.el b.wv (YO l b.bl) pc he0 he1 h2 h3 hb.w0 hb.w1 hus.1 hun) I ⟨zc _,zc _,zc _,zc _,t9⟩ I)<|zd I<|za I (zo I I)<|za I (zo I I)<|za I (zo I I)<|zf I<|zf I<|zf I<|ze<|zh<|zn<|zd I<|za I (yv I I)<|ze<|zK I I<|zq<|zj<|zh<|yl (g6 :: []) (rr [0,1,2,3,4,5,6,7]<|.n 8 (.r 9<|.e 10 (.r 11 .fin) .no) .no) k9 k9 (fun d _ _ _ _ h=>by cases d <;> exact h)<|zl I I (zg (n:=0) I k9)<|zl I I (zg (n:=0) I k9)<|zl I I (zp 3 I I I k9<|ZR 1 I d9 zm)<|zz I I<|zz I I<|zl I I (zg (n:=0) I k9)<|zl I I (zg (n:=3) I k9)<|zl I I (zp 3 I I I k9<|ZR 1 I d9 zm)<|yZ I (yX [2] (Vg b.bl o9) I ⟨(KB 2 I d9),t9⟩ I)<|zl I I (yF I I bldBd)<|Zm I (zA 1 I I I k9 I mC)<|yR I I<|yE<|zV (fn:=Tryz.f87) (()) [2] (fun _ _ h=>h) (Rs.le (Rs.two I (yx 1 I I k9)<|zk I) ?_) d9 ⟨lR I,t9⟩)
 exact zc _
end
section
structure Tp.Bi where
 who:Int
 at_:Int
 ch:Int
 pt:Rw
def ZA (b:Tp.Bi):List D:=iD b.who :: iD b.at_ :: iD b.ch :: qk b.pt
instance:Row ZA 7:=⟨fun _=>rfl,fun x=>by unfold ZA;infer_instance,by decide⟩
instance (b:Tp.Bi):Ones (ZA b):=by unfold ZA;infer_instance
def VR (r:Rw):Prop:=∃ n d:Int,Good n d∧qk r=zak n d∧0≤n∧n≤d∧d≤1000
structure Tp.OkI (l:List Tp.Pr) (bs:List Tp.Bd) (b:Tp.Bi):Prop where
 a0:0≤b.at_
 a1:b.at_ < (l.length:Int)
 c0: -12≤b.ch
 c1:b.ch≤12
 w0:0≤b.who
 wh:∃ x∈bs,x.id=b.who
theorem cmp_le {x y:Int}:VA x y≤0↔x≤y:=by
 rw [← Int.not_lt,← Int.not_lt,zfG]
theorem con_vpt (r:Rw) (hB:Byt r.b r.c):ConR Tryz.prog 36 [] [Z8<|qk r] (fun t:{b:Bool // b=true→VR r}=>[]) (fun t:{b:Bool // b=true→VR r}=>yL t.1):=by
 refine yt Tryz.func36 k9 I k9 fun base w0=>(zn (SWl.e2 (S:=[]) (ym I I) fun g1=>(zf I<|ze<|zh<|zh ?_)))
 by_cases hval:zbK r.s r.b r.t r.c=true
 ·obtain ⟨nn,d,hG,hxe,hxn,hxd⟩:=Rw.int hB hval;refine SW.sub (σ':=yb [(1,_)] [.c g1<|zak nn d]) (⟨⟨_,I,⟨lq I,t9⟩⟩,[0],by decide,⟨⟨_,rfl,(zd2 hxe)⟩,trivial⟩⟩) (zi<|za I (zx 0 4 I I k9 I zm)<|zu (S:=[]) (zv (ZO hG) I ⟨zc _,t9⟩ I)<|za I (yu I)<|zd I<|zJ I (zx 0 4 I I k9 I zm)<|yN (S:=[]) I I I I (zv (WF hG) I ⟨zc _,t9⟩ I) ?_);rintro _ rfl;refine zJ I (yc I I) (za I (zw I I I)<|ze<|zC I (fun hb10=> ?_) (fun hb10=> ?_))
  ·have h10:nn.sign < 0:=oT hb10;refine zn (zf I<|ze<|zV (fn:=Tryz.f36) (⟨false,fun h=>(by cases h)⟩) [] (fun _ _ h=>h) (Rs.le (zG I<|zk I) ?_) d9 t9);exact zc _
  ·have h10:¬nn < 0:=fun h=>oF hb10 (K9.2 h)
   refine zq (zj<|zh<|yl [] (.r 0<|.r 1<|.n 2 (.n 3 (rr [4,5,6,7,8,9]<|.n 10 (rr [11,12,13] .fin) .no) .no) .no) k9 k9 (fun d _ _ _ _ h=>by cases d <;> exact h)<|zl I I (zg (n:=2) I k9)<|zl I I (zx 0 2 I I k9 I zm)<|yZ I (zv (Ki d9 d9) I ⟨zc _,t9⟩ I)<|yZ I (zv (qm hG.hd (by unfold ya;decide +kernel)) I ⟨zc _,zc _,t9⟩ I)<|zl I I (Zn I I)<|zz I I<|Zq 16 I (fun hb16=> ?_) (fun hb16=> ?_))
   ·have h16:d≤1000:=cmp_le.1 (oT hb16);refine zy I I I hb16 I I (zg (n:=0) I k9) (zy I I I hb16 I I (zx 0 2 I I k9 I zm)<|zy I I I hb16 I I (zg (n:=2) I k9)<|zy I I I hb16 I I (zx 0 2 I I k9 I zm)<|Ys I I I (hb16) I (zv (qm hG.hn hG.hd) I ⟨zc _,zc _,t9⟩ I) ?_ yB);rintro _ rfl;refine zy I I I hb16 I I (Zn I I) (zl I I (zE I hb16 I)<|yR I I<|yE<|zV (fn:=Tryz.f36) (⟨decide (VA nn d≤0),fun h=>⟨nn,d,hG,hxe,by omega,cmp_le.1<|oT h,h16⟩⟩) [] (fun _ _ h=>h) (Rs.le (zG I<|zk I) ?_) d9 t9);exact zc _
   ·skip
    refine zD I I I hb16 I I (zD I I I hb16 I I<|zD I I I hb16 I I<|zD I I I hb16 I I<|YK I I I (hb16) I I ?_ yB);refine zD I I I hb16 I I (zl I I (zw I hb16 I)<|yR I I<|yE<|zV (fn:=Tryz.f36) (⟨false,fun h=>(by cases h)⟩) [] (fun _ _ h=>h) (Rs.le (zG I<|zk I) ?_) d9 t9);exact zc _
 ·have hval:=Bool.eq_false_iff.2 hval;refine SW.sub (σ':=yb [(1,_)] [_]) (sB [0] I I) (zi<|za I (zx 0 4 I I k9 I zm)<|zu (S:=[]) (zv (zcg hB hval) I ⟨zc _,t9⟩ I)<|za I (yu I)<|zd I<|zt I<|zt I<|zt I<|za I (zE I I I)<|ze<|yj I I<|zn<|zf I<|ze<|zV (fn:=Tryz.f36) (⟨false,fun h=>(by cases h)⟩) [] (fun _ _ h=>h) (Rs.le (zG I<|zk I) ?_) d9 t9);exact zc _
theorem con_rd1 (x:Tp.Bi) (hB:Byt x.pt.b x.pt.c):ConR Tryz.prog 35 [] [Z8<|ZA x] (fun t:{b:Bool // b=false→VR x.pt}=>[]) (fun t:{b:Bool // b=false→VR x.pt}=>yL t.1):=by
 refine yt Tryz.func35 k9 I k9 fun base w0=>(zn (SWl.e2 (S:=[]) (ym I I) fun g1=>(zf I<|zN<|za I (zg (n:=3) I k9)<|za I (zx 0 4 I I k9 I zm)<|Zc (S:=[]) (yh [] (con_vpt x.pt hB) I ⟨zc _,t9⟩ d9 t9 (fun _ h=>h) I) ?_)));rintro _ ⟨⟨b,hb⟩,rfl⟩;refine za I (yu I) (zf I<|ze<|zV (fn:=Tryz.f35) (⟨!b,fun h=>hb<|qp h⟩) [] (fun _ _ h=>h) (Rs.le (zG I<|zk I) ?_) d9 t9);exact zc _
theorem con_idxI (xs:List Int) (f:Int→Bool) (hl:xs.length≤1000000):ConR Tryz.prog 74 [] [lsD z7 xs,prD Tryz.prog (fun _=>True)<|f] (fun t:{z:Int // 0≤z↔∃ x∈xs,f x=true}=>[]) (fun t:{z:Int // 0≤z↔∃ x∈xs,f x=true}=>iD t.1):=by
 refine yt Tryz.func74 k9 I k9 fun base w0=>(zn<|zf I<|ze<|zh<|zn<|zd I<|za I (zT (e:=3) I k9)<|zd I<|ze<|SW.block<|yd (ι:={i:Nat // i≤xs.length∧∀ j < i,∀ z,xs[j]? =some z→f z=false}) (fun i=>yb [(0,lsD z7 xs),(1,prD Tryz.prog (fun _=>True)<|f),(7,iD (xs.length:Int)),(8,iD (i.1:Int))] []) (fun i=>xs.length - i.1) (⟨0,JC _,fun _ h=>absurd h<|Nat.not_lt_zero _⟩) ?_ ?_)
 ·exact (sB [] I I)
 ·rintro ⟨i,hi,hp⟩ K0 hK0;dsimp only at hi hp ⊢;refine zn (za I (yc I I)<|ze<|zh<|zC I (fun hb9=> ?_) (fun hb9=> ?_))
  ·have h9:(i:Int) < (xs.length:Int):=oT hb9;refine zq (zj<|zh<|SW.block<|zh ?_);obtain ⟨x,hx⟩:∃ x,xs[i]? =some x:=⟨_,Je o9⟩;refine zi (zd I<|zf I<|zN<|zd I<|zd I<|zd I<|za I (zU (e:=3) 1 I I k9 k9 o9 (by simpa using hx))<|za I (zS I I k9 s9)<|zu (S:=[]) (zbJ I I t9 I)<|ze<|zC I (fun hb16=> ?_) (fun hb16=> ?_))
   ·skip
    refine zn (zd I<|zf I<|ze<|zV (fn:=Tryz.f74) (⟨(i:Int),fun _=>⟨x,Jc hx,hb16⟩,fun _=>by omega⟩) [] (fun _ _ h=>h) (Rs.le (zG I<|zk I) ?_) d9 t9);exact zc _
   ·skip
    exact zq (SN.block<|zj<|zi<|za I (Rd.add I I ⟨by omega,by omega⟩)<|zd I<|zF (fun aK wK hh=>hK0 (⟨i + 1,by omega,fun j hj z hz=>(Nat.lt_succ_iff_lt_or_eq.1 hj).elim (fun h=>hp j h z hz) (fun e=>by subst e;rw [hx] at hz;rw [← Option.some.inj hz];exact hb16)⟩) (by dsimp only;omega) aK wK<|hh.sub<|⟨⟨_,I,⟨lq I,⟨lq I,⟨lq I,⟨⟨_,I,zI s9⟩,t9⟩⟩⟩⟩⟩,[],by decide,trivial⟩))
  ·have h9:¬(i:Int) < (xs.length:Int):=oF hb9;refine zQ ?_
   repeat (first | refine zX ?_ | refine zY d9 ?_)
   refine zZ (zj<|zn<|zf I<|ze<|zV (fn:=Tryz.f74) (⟨-1,fun h=>absurd h d9,fun ⟨x,hx,hf⟩=>by obtain ⟨j,hj⟩:=List.getElem?_of_mem hx;rw [hp j (by have:=(Jg.1 hj).1;omega) x hj] at hf;cases hf⟩) [] (fun _ _ h=>h) (Rs.le (zG I<|zk I) ?_) d9 t9);exact zc _
theorem zej (xs:List Int) (f:Int→Bool) (hl:xs.length≤1000000):ConR Tryz.prog 30 [] [lsD z7 xs,prD Tryz.prog (fun _=>True)<|f] (fun t:{b:Bool // b=true↔∃ x∈xs,f x=true}=>[]) (fun t:{b:Bool // b=true↔∃ x∈xs,f x=true}=>yL t.1):=by
 refine yt Tryz.func30 k9 I k9 fun base w0=>(zn<|zf I<|zN<|zd I<|zd I<|Zc (S:=[]) (yh [] (con_idxI xs f hl) I ⟨zc _,zc _,t9⟩ d9 t9 (fun _ h=>h) I) ?_);rintro _ ⟨⟨z,hz⟩,rfl⟩;refine za I (YF I I) (zf I<|ze<|zV (fn:=Tryz.f30) (⟨decide (0≤z),by rw [decide_eq_true_iff];exact hz⟩) [] (fun _ _ h=>h) (Rs.le (zG I<|zk I) ?_) d9 t9);exact zc _
theorem con_vb1 (g9:Nat) (y:Tp.Bi) (x:Tp.Bd):ConR Tryz.prog 78 [.c g9<|ZA y] [Z8<|yK x,pA g9] (fun _:Unit=>[.c g9<|ZA y]) (fun _:Unit=>yL<|decide (x.id=y.who)):=by
 refine yt Tryz.func78 k9 I k9 fun base w0=>(zn (SWl.e2 (S:=[]) (ym I I) fun g2=>(zf I<|zN<|za I (zg (n:=0) I k9)<|za I (zp 1 I I I k9 zm)<|za I (zg (n:=0) I k9)<|za I (zp 0 I I I k9 zm)<|za I (Zr I I)<|zf I<|ze<|zV (fn:=Tryz.f78) (()) [0] (fun _ _ h=>h) (Rs.le (zG I<|zk I) ?_) d9 ⟨la I,t9⟩)));exact zc _
theorem con_idxBd (g9:Nat) (y:Tp.Bi) (bs:List Tp.Bd) (hl:bs.length≤1000000):ConR Tryz.prog 117 [.c g9<|ZA y] [lsD yK bs,isD<|.func (.func 78) #[] #[.pointer<|some ⟨g9,0,none⟩]] (fun t:{z:Int // 0≤z→∃ x∈bs,x.id=y.who}=>[.c g9<|ZA y]) (fun t:{z:Int // 0≤z→∃ x∈bs,x.id=y.who}=>iD t.1):=by
 refine yt Tryz.func117 k9 I k9 fun base w0=>(zn<|zf I<|ze<|zh<|zn<|zd I<|za I (zT (e:=59) I k9)<|zd I<|ze<|SW.block<|yd (ι:={i:Nat // i≤bs.length∧∀ j < i,∀ z,bs[j]? =some z→True}) (fun i=>yb [(0,lsD yK bs),(1,isD<|.func (.func 78) #[] #[.pointer<|some ⟨g9,0,none⟩]),(7,iD (bs.length:Int)),(8,iD (i.1:Int))] [.c g9<|ZA y]) (fun i=>bs.length - i.1) (⟨0,JC _,fun _ h=>absurd h<|Nat.not_lt_zero _⟩) ?_ ?_)
 ·exact (sB [0] I I)
 ·rintro ⟨i,hi,hp⟩ K0 hK0;dsimp only at hi hp ⊢;refine zn (za I (yc I I)<|ze<|zh<|zC I (fun hb9=> ?_) (fun hb9=> ?_))
  ·have h9:(i:Int) < (bs.length:Int):=oT hb9;refine zq (zj<|zh<|SW.block<|zh ?_);obtain ⟨x,hx⟩:∃ x,bs[i]? =some x:=⟨_,Je o9⟩;refine zi (zd I<|zf I<|zN<|zd I<|zd I<|zd I<|za I (zU (e:=59) 4 I I k9 k9 o9 (by simpa using hx))<|za I (yn 4 I k9 d9 (show 4≤4 by decide) s9) (SWl.e2 (KZ (cap:=[.pointer<|some ⟨g9,0,none⟩]) [0] (con_vb1 g9 y x) I I ⟨zc _,zc _,t9⟩ d9 ⟨la I,t9⟩ (fun _ h=>h) I) fun _=>(ze<|zC I (fun hb16=> ?_) (fun hb16=> ?_))))
   ·skip
    refine zn (zd I<|zf I<|ze<|zV (fn:=Tryz.f117) (⟨(i:Int),fun _=>⟨x,Jc hx,oT hb16⟩⟩) [0] (fun _ _ h=>h) (Rs.le (zG I<|zk I) ?_) d9 ⟨la I,t9⟩);exact zc _
   ·skip
    exact zq (SN.block<|zj<|zi<|za I (Rd.add I I ⟨by omega,by omega⟩)<|zd I<|zF (fun aK wK hh=>hK0 (⟨i + 1,by omega,fun _ _ _ _=>trivial⟩) (by dsimp only;omega) aK wK<|hh.sub<|⟨⟨_,I,⟨lq I,⟨lq I,⟨lq I,⟨⟨_,I,zI s9⟩,t9⟩⟩⟩⟩⟩,[0],by decide,⟨la rfl,trivial⟩⟩))
  ·have h9:¬(i:Int) < (bs.length:Int):=oF hb9;refine zQ ?_
   repeat (first | refine zX ?_ | refine zY d9 ?_)
   refine zZ (zj<|zn<|zf I<|ze<|zV (fn:=Tryz.f117) (⟨-1,fun h=>absurd h d9⟩) [0] (fun _ _ h=>h) (Rs.le (zG I<|zk I) ?_) d9 ⟨la I,t9⟩);exact zc _
theorem con_conBd (g9:Nat) (y:Tp.Bi) (bs:List Tp.Bd) (hl:bs.length≤1000000):ConR Tryz.prog 77 [.c g9<|ZA y] [lsD yK bs,isD<|.func (.func 78) #[] #[.pointer<|some ⟨g9,0,none⟩]] (fun t:{b:Bool // b=true→∃ x∈bs,x.id=y.who}=>[.c g9<|ZA y]) (fun t:{b:Bool // b=true→∃ x∈bs,x.id=y.who}=>yL t.1):=by
 refine yt Tryz.func77 k9 I k9 fun base w0=>(zn<|zf I<|zN<|zd I<|zd I<|Zc (yh [0] (con_idxBd g9 y bs hl) I ⟨zc _,zc _,t9⟩ d9 ⟨la I,t9⟩ (fun _ h=>h) I) ?_);rintro _ ⟨⟨z,hz⟩,rfl⟩;refine za I (YF I I) (zf I<|ze<|zV (fn:=Tryz.f77) (⟨decide (0≤z),fun h=>hz<|oT h⟩) [0] (fun _ _ h=>h) (Rs.le (zG I<|zk I) ?_) d9 ⟨la I,t9⟩);exact zc _
theorem con_idxBi (is:List Tp.Bi) (hl:is.length≤1000000) (hby:∀ b∈is,Byt b.pt.b b.pt.c):ConR Tryz.prog 79 [] [lsD ZA is,isD<|.func (.func 35) #[] #[]] (fun t:{z:Int // z < 0→∀ x∈is,VR x.pt}=>[]) (fun t:{z:Int // z < 0→∀ x∈is,VR x.pt}=>iD t.1):=by
 refine yt Tryz.func79 k9 I k9 fun base w0=>(zn<|zf I<|ze<|zh<|zn<|zd I<|za I (zT (e:=105) I k9)<|zd I<|ze<|SW.block<|yd (ι:={i:Nat // i≤is.length∧∀ j < i,∀ z,is[j]? =some z→VR z.pt}) (fun i=>yb [(0,lsD ZA is),(1,isD<|.func (.func 35) #[] #[]),(7,iD (is.length:Int)),(8,iD (i.1:Int))] []) (fun i=>is.length - i.1) (⟨0,JC _,fun _ h=>absurd h<|Nat.not_lt_zero _⟩) ?_ ?_)
 ·exact (sB [] I I)
 ·rintro ⟨i,hi,hp⟩ K0 hK0;dsimp only at hi hp ⊢;refine zn (za I (yc I I)<|ze<|zh<|zC I (fun hb9=> ?_) (fun hb9=> ?_))
  ·have h9:(i:Int) < (is.length:Int):=oT hb9;refine zq (zj<|zh<|SW.block<|zh ?_);obtain ⟨x,hx⟩:∃ x,is[i]? =some x:=⟨_,Je o9⟩;refine zi (zd I<|zf I<|zN<|zd I<|zd I<|zd I<|za I (zU (e:=105) 7 I I k9 k9 o9 (by simpa using hx))<|za I (yn 7 I k9 d9 (show 7≤7 by decide) s9)<|Zc (S:=[]) (KZ (cap:=[]) [] (con_rd1 x<|hby x<|Jc hx) I I ⟨zc _,t9⟩ d9 t9 (fun _ h=>h) I) ?_);rintro _ ⟨⟨b,hbp⟩,rfl⟩;refine ze (zC I (fun hb16=> ?_) (fun hb16=> ?_))
   ·skip
    refine zn (zd I<|zf I<|ze<|zV (fn:=Tryz.f79) (⟨(i:Int),fun h=>absurd h o9⟩) [] (fun _ _ h=>h) (Rs.le (zG I<|zk I) ?_) d9 t9);exact zc _
   ·skip
    exact zq (SN.block<|zj<|zi<|za I (Rd.add I I ⟨by omega,by omega⟩)<|zd I<|zF (fun aK wK hh=>hK0 (⟨i + 1,by omega,fun j hj z hz=>(Nat.lt_succ_iff_lt_or_eq.1 hj).elim (fun h=>hp j h z hz) (fun e=>by subst e;rw [hx] at hz;rw [← Option.some.inj hz];exact hbp hb16)⟩) (by dsimp only;omega) aK wK<|hh.sub<|⟨⟨_,I,⟨lq I,⟨lq I,⟨lq I,⟨⟨_,I,zI s9⟩,t9⟩⟩⟩⟩⟩,[],by decide,trivial⟩))
  ·have h9:¬(i:Int) < (is.length:Int):=oF hb9;refine zQ ?_
   repeat (first | refine zX ?_ | refine zY d9 ?_)
   refine zZ (zj<|zn<|zf I<|ze<|zV (fn:=Tryz.f79) (⟨-1,fun _ x hx=>by obtain ⟨j,hj⟩:=List.getElem?_of_mem hx;exact hp j (by have:=(Jg.1 hj).1;omega) x hj⟩) [] (fun _ _ h=>h) (Rs.le (zG I<|zk I) ?_) d9 t9);exact zc _
theorem con_conBi (is:List Tp.Bi) (hl:is.length≤1000000) (hby:∀ b∈is,Byt b.pt.b b.pt.c):ConR Tryz.prog 34 [] [lsD ZA is,isD<|.func (.func 35) #[] #[]] (fun t:{b:Bool // b=false→∀ x∈is,VR x.pt}=>[]) (fun t:{b:Bool // b=false→∀ x∈is,VR x.pt}=>yL t.1):=by
 refine yt Tryz.func34 k9 I k9 fun base w0=>(zn<|zf I<|zN<|zd I<|zd I<|Zc (S:=[]) (yh [] (con_idxBi is hl hby) I ⟨zc _,zc _,t9⟩ d9 t9 (fun _ h=>h) I) ?_);rintro _ ⟨⟨z,hz⟩,rfl⟩;refine za I (YF I I) (zf I<|ze<|zV (fn:=Tryz.f34) (⟨decide (0≤z),fun h=>hz (by have:=oF h;omega)⟩) [] (fun _ _ h=>h) (Rs.le (zG I<|zk I) ?_) d9 t9);exact zc _
set_option maxHeartbeats 4000000 in
set_option maxRecDepth 100000 in
theorem con_vbids (l : List Tp.Pr) (bs : List Tp.Bd) (is : List Tp.Bi) (hl : l.length ≤ 1000000) (hi0 : is.length ≤ 1000000) (hv : Tp.VB l bs) : ConR Tryz.prog 33 [] [lsD yA l, lsD yK bs, lsD ZA is] (fun t : {b : Bool // b = true → is.length ≤ 128 ∧ ∀ x ∈ is, Tp.OkI l bs x} => []) (fun t : {b : Bool // b = true → is.length ≤ 128 ∧ ∀ x ∈ is, Tp.OkI l bs x} => yL t.1) := by
  have hn := hv.n
  refine yt Tryz.func33 (by kernel_rfl) rfl (by kernel_rfl) fun base w0 => ?_
  refine zh ?_
  refine zi ?_
  refine za rfl (jM rfl) ?_
  refine zF ?_
  refine zj ?_
  refine zh ?_
  refine zh ?_
  refine zi ?_
  refine za rfl (zH rfl) ?_
  refine za rfl (zT (e := 105) rfl (by kernel_rfl)) ?_
  refine za rfl (yV rfl rfl) ?_
  refine za rfl (zH rfl) ?_
  refine z1 13 rfl (fun hb13 => ?_) (fun hb13 => ?_)
  · have h13 : (is.length : Int) > 128 := of_decide_eq_true hb13
    refine qr rfl rfl (hb13) rfl rfl ?_
    refine qr rfl rfl (hb13) rfl rfl ?_
    refine qr rfl rfl (hb13) rfl rfl ?_
    refine qr rfl rfl (hb13) rfl rfl ?_
    refine za rfl (zE rfl (hb13) rfl) ?_
    refine zF ?_
    refine zj ?_
    refine yj rfl (rfl) ?_
    refine zh ?_
    refine zi ?_
    refine za rfl (jM rfl) ?_
    refine zF ?_
    refine zj ?_
    refine zV (fn := Tryz.f33) (⟨false, fun h => (by cases h)⟩) [] (fun _ _ h => h) (Rs.le (zG rfl (zk rfl)) ?_) (by decide) trivial
    exact zc _
  · have h13 : ¬ (is.length : Int) > 128 := of_decide_eq_false hb13
    refine yI rfl rfl (hb13) rfl rfl (zH rfl) ?_
    refine yI rfl rfl (hb13) rfl rfl (zH rfl) ?_
    refine yN (S := []) rfl rfl (hb13) rfl (yX [] (zcd l bs hl (by omega) (fun b hb => by rw [hv.bl hb]; exact hl)) rfl ⟨(zP (zc _)), (zP (zc _)), trivial⟩ rfl) ?_
    rintro _ rfl
    refine yI rfl rfl (hb13) rfl rfl (yu rfl) ?_
    refine za rfl (zw rfl (hb13) rfl) ?_
    refine zF ?_
    refine zj ?_
    refine zK rfl (by rw [jH hv]; rfl) ?_
    refine zq ?_
    refine zj ?_
    refine zh ?_
    refine zi ?_
    refine za rfl (jM rfl) ?_
    refine zF ?_
    refine zj ?_
    refine zh ?_
    refine zh ?_
    refine zi ?_
    refine za rfl (zH rfl) ?_
    refine za rfl (zT (e := 105) rfl (by kernel_rfl)) ?_
    refine za rfl (zH rfl) ?_
    refine zF ?_
    refine zj ?_
    refine SW.block ?_
    refine yd (ι := {p : Nat × Int // p.1 ≤ is.length ∧ 0 ≤ p.2 ∧ ∀ j < p.1, ∀ z, is[j]? = some z → Tp.OkI l bs z}) (fun p => yb [(0, lsD yA l), (1, lsD yK bs), (7, iD p.1.2), (19, lsD ZA is), (20, iD (is.length : Int)), (21, iD (p.1.1 : Int))] []) (fun p => is.length - p.1.1) (⟨(0, 0), Nat.zero_le _, Int.le_refl _, fun _ h => absurd h (Nat.not_lt_zero _)⟩) ?_ ?_
    · exact ⟨⟨_, rfl, ⟨⟨_, rfl, zc _⟩, ⟨⟨_, rfl, zc _⟩, ⟨⟨_, rfl, zc _⟩, ⟨⟨_, rfl, zc _⟩, ⟨⟨_, rfl, zc _⟩, ⟨⟨_, rfl, zc _⟩, trivial⟩⟩⟩⟩⟩⟩⟩, [], by decide, trivial⟩
    · rintro ⟨⟨i, la⟩, hi, hla, hp⟩ K0 hK0
      dsimp only at hi hla hp ⊢
      refine zh ?_
      refine zi ?_
      refine za rfl (yc rfl rfl) ?_
      refine zF ?_
      refine zj ?_
      refine zh ?_
      refine zC rfl (fun hb22 => ?_) (fun hb22 => ?_)
      · have h22 : (i : Int) < (is.length : Int) := of_decide_eq_true hb22
        refine zq ?_
        refine zj ?_
        refine zh ?_
        refine SW.block ?_
        refine zh ?_
        obtain ⟨x, hx⟩ : ∃ x, is[i]? = some x := ⟨_, List.getElem?_eq_getElem (by omega)⟩
        refine zi ?_
        refine za rfl (zU (e := 105) 7 rfl rfl (by kernel_rfl) (by kernel_rfl) (by omega) (by simpa using hx)) ?_
        refine za rfl (yn 7 rfl (by kernel_rfl) (by decide) (show 7 ≤ 7 by decide) (by simp)) ?_
        refine Zc (S := []) (Ef.alloc (zs := [.int .i64 0, .int .i64 0, .int .i64 0, .bool false, .slice none 0 0, .bool false, .slice none 0 0]) (by kernel_rfl) rfl) ?_
        rintro _ ⟨g9, rfl⟩
        refine Zc (S := [_]) (zA 0 rfl rfl rfl (by kernel_rfl) rfl (List.mem_singleton.2 rfl)) ?_
        rintro _ rfl
        refine zF ?_
        refine zj ?_
        refine zh ?_
        refine zh ?_
        refine zi ?_
        refine za rfl (zg (n := 0) rfl (by kernel_rfl)) ?_
        refine za rfl (zp 0 rfl rfl rfl (by kernel_rfl) zm) ?_
        refine za rfl (zH rfl) ?_
        refine za rfl (yc rfl rfl) ?_
        refine za rfl (zH rfl) ?_
        refine z1 29 rfl (fun hb29 => ?_) (fun hb29 => ?_)
        · have h29 : x.who < la := of_decide_eq_true hb29
          refine qr rfl rfl (hb29) rfl rfl ?_
          refine qr rfl rfl (hb29) rfl rfl ?_
          refine qr rfl rfl (hb29) rfl rfl ?_
          refine za rfl (zE rfl (hb29) rfl) ?_
          refine za rfl (zH rfl) ?_
          refine qr rfl rfl (rfl) rfl rfl ?_
          refine qr rfl rfl (rfl) rfl rfl ?_
          refine qr rfl rfl (rfl) rfl rfl ?_
          refine qr rfl rfl (rfl) rfl rfl ?_
          refine qr rfl rfl (rfl) rfl rfl ?_
          refine za rfl (zE rfl (rfl) rfl) ?_
          refine zF ?_
          refine zj ?_
          refine yj rfl (rfl) ?_
          refine zh ?_
          refine zi ?_
          refine za rfl (jM rfl) ?_
          refine zF ?_
          refine zj ?_
          refine zV (fn := Tryz.f33) (⟨false, fun h => (by cases h)⟩) [] (fun _ _ h => h) (Rs.le (zG rfl (zk rfl)) ?_) (by decide) trivial
          exact zc _
        · have h29 : ¬ x.who < la := of_decide_eq_false hb29
          refine yI rfl rfl (hb29) rfl rfl (zg (n := 1) rfl (by kernel_rfl)) ?_
          refine yI rfl rfl (hb29) rfl rfl (zp 0 rfl rfl rfl (by kernel_rfl) zm) ?_
          refine yI rfl rfl (hb29) rfl rfl (yc rfl rfl) ?_
          refine za rfl (zw rfl (hb29) rfl) ?_
          refine za rfl (zH rfl) ?_
          refine z1 34 rfl (fun hb34 => ?_) (fun hb34 => ?_)
          · have h34 : x.at_ < 0 := of_decide_eq_true hb34
            refine qr rfl rfl (hb34) rfl rfl ?_
            refine qr rfl rfl (hb34) rfl rfl ?_
            refine qr rfl rfl (hb34) rfl rfl ?_
            refine qr rfl rfl (hb34) rfl rfl ?_
            refine qr rfl rfl (hb34) rfl rfl ?_
            refine za rfl (zE rfl (hb34) rfl) ?_
            refine zF ?_
            refine zj ?_
            refine yj rfl (rfl) ?_
            refine zh ?_
            refine zi ?_
            refine za rfl (jM rfl) ?_
            refine zF ?_
            refine zj ?_
            refine zV (fn := Tryz.f33) (⟨false, fun h => (by cases h)⟩) [] (fun _ _ h => h) (Rs.le (zG rfl (zk rfl)) ?_) (by decide) trivial
            exact zc _
          · have h34 : ¬ (x.at_ < 0) := of_decide_eq_false hb34
            refine yI rfl rfl (hb34) rfl rfl (zg (n := 1) rfl (by kernel_rfl)) ?_
            refine yI rfl rfl (hb34) rfl rfl (zp 0 rfl rfl rfl (by kernel_rfl) zm) ?_
            refine yI rfl rfl (hb34) rfl rfl (zH rfl) ?_
            refine yI rfl rfl (hb34) rfl rfl (zT (e := 61) rfl (by kernel_rfl)) ?_
            refine yI rfl rfl (hb34) rfl rfl (YF rfl rfl) ?_
            refine za rfl (zw rfl (hb34) rfl) ?_
            refine zF ?_
            refine zj ?_
            refine zC rfl (fun hb40 => ?_) (fun hb40 => ?_)
            · have h40 : x.at_ ≥ (l.length : Int) := of_decide_eq_true hb40
              refine zh ?_
              refine zi ?_
              refine za rfl (jM rfl) ?_
              refine zF ?_
              refine zj ?_
              refine zV (fn := Tryz.f33) (⟨false, fun h => (by cases h)⟩) [] (fun _ _ h => h) (Rs.le (zG rfl (zk rfl)) ?_) (by decide) trivial
              exact zc _
            · have h40 : ¬ (x.at_ ≥ (l.length : Int)) := of_decide_eq_false hb40
              refine zq ?_
              refine zj ?_
              refine zh ?_
              refine zh ?_
              refine zi ?_
              refine za rfl (zg (n := 2) rfl (by kernel_rfl)) ?_
              refine za rfl (zp 0 rfl rfl rfl (by kernel_rfl) zm) ?_
              refine za rfl (yc rfl rfl) ?_
              refine za rfl (zH rfl) ?_
              refine z1 44 rfl (fun hb44 => ?_) (fun hb44 => ?_)
              · have h44 : x.ch < -12 := of_decide_eq_true hb44
                refine qr rfl rfl (hb44) rfl rfl ?_
                refine qr rfl rfl (hb44) rfl rfl ?_
                refine qr rfl rfl (hb44) rfl rfl ?_
                refine za rfl (zE rfl (hb44) rfl) ?_
                refine za rfl (zH rfl) ?_
                refine qr rfl rfl (rfl) rfl rfl ?_
                refine qr rfl rfl (rfl) rfl rfl ?_
                refine qr rfl rfl (rfl) rfl rfl ?_
                refine za rfl (zE rfl (rfl) rfl) ?_
                refine zF ?_
                refine zj ?_
                refine yj rfl (rfl) ?_
                refine zh ?_
                refine zi ?_
                refine za rfl (jM rfl) ?_
                refine zF ?_
                refine zj ?_
                refine zV (fn := Tryz.f33) (⟨false, fun h => (by cases h)⟩) [] (fun _ _ h => h) (Rs.le (zG rfl (zk rfl)) ?_) (by decide) trivial
                exact zc _
              · have h44 : ¬ x.ch < -12 := of_decide_eq_false hb44
                refine yI rfl rfl (hb44) rfl rfl (zg (n := 2) rfl (by kernel_rfl)) ?_
                refine yI rfl rfl (hb44) rfl rfl (zp 0 rfl rfl rfl (by kernel_rfl) zm) ?_
                refine yI rfl rfl (hb44) rfl rfl (yV rfl rfl) ?_
                refine za rfl (zw rfl (hb44) rfl) ?_
                refine za rfl (zH rfl) ?_
                refine z1 49 rfl (fun hb49 => ?_) (fun hb49 => ?_)
                · have h49 : x.ch > 12 := of_decide_eq_true hb49
                  refine qr rfl rfl (hb49) rfl rfl ?_
                  refine qr rfl rfl (hb49) rfl rfl ?_
                  refine qr rfl rfl (hb49) rfl rfl ?_
                  refine za rfl (zE rfl (hb49) rfl) ?_
                  refine zF ?_
                  refine zj ?_
                  refine yj rfl (rfl) ?_
                  refine zh ?_
                  refine zi ?_
                  refine za rfl (jM rfl) ?_
                  refine zF ?_
                  refine zj ?_
                  refine zV (fn := Tryz.f33) (⟨false, fun h => (by cases h)⟩) [] (fun _ _ h => h) (Rs.le (zG rfl (zk rfl)) ?_) (by decide) trivial
                  exact zc _
                · have h49 : ¬ (x.ch > 12) := of_decide_eq_false hb49
                  refine yI rfl rfl (hb49) rfl rfl (zg (n := 2) rfl (by kernel_rfl)) ?_
                  refine yI rfl rfl (hb49) rfl rfl (zp 0 rfl rfl rfl (by kernel_rfl) zm) ?_
                  refine yI rfl rfl (hb49) rfl rfl (Zr rfl rfl) ?_
                  refine za rfl (zw rfl (hb49) rfl) ?_
                  refine zF ?_
                  refine zj ?_
                  refine zC rfl (fun hb53 => ?_) (fun hb53 => ?_)
                  · have h53 : x.ch = 0 := of_decide_eq_true hb53
                    refine zh ?_
                    refine zi ?_
                    refine za rfl (jM rfl) ?_
                    refine zF ?_
                    refine zj ?_
                    refine zV (fn := Tryz.f33) (⟨false, fun h => (by cases h)⟩) [] (fun _ _ h => h) (Rs.le (zG rfl (zk rfl)) ?_) (by decide) trivial
                    exact zc _
                  · have h53 : ¬ (x.ch = 0) := of_decide_eq_false hb53
                    refine zq ?_
                    refine zj ?_
                    refine zh ?_
                    refine zh ?_
                    refine zi ?_
                    refine za rfl (zH rfl) ?_
                    refine za rfl (YA [.pointer (some ⟨g9, 0, none⟩)] rfl) ?_
                    refine Zc (yh [0] (con_conBd g9 x bs (by omega)) rfl ⟨zc _, zc _, trivial⟩ (by decide) ⟨⟨_, rfl, Zk _⟩, trivial⟩ (fun _ h => h) rfl) ?_
                    rintro _ ⟨⟨b, hbw⟩, rfl⟩
                    refine za rfl (yu rfl) ?_
                    refine zF ?_
                    refine zj ?_
                    refine zC rfl (fun hb57 => ?_) (fun hb57 => ?_)
                    · skip
                      refine zh ?_
                      refine zi ?_
                      refine za rfl (jM rfl) ?_
                      refine zF ?_
                      refine zj ?_
                      refine zV (fn := Tryz.f33) (⟨false, fun h => (by cases h)⟩) [] (fun _ _ h => h) (Rs.le (zG rfl (zk rfl)) ?_) (by decide) trivial
                      exact zc _
                    · have h57 := qp hb57
                      refine zq ?_
                      refine zj ?_
                      refine zi ?_
                      refine za rfl (zg (n := 0) rfl (by kernel_rfl)) ?_
                      refine za rfl (zp 0 rfl rfl rfl (by kernel_rfl) zm) ?_
                      refine za rfl (jM rfl) ?_
                      refine zF ?_
                      refine SN.block ?_
                      refine zj ?_
                      refine zi ?_
                      refine za rfl (Rd.add rfl rfl ⟨by omega, by omega⟩) ?_
                      refine za rfl (zH rfl) ?_
                      refine zF ?_
                      exact fun aK wK hh => hK0 (⟨(i + 1, x.who), by dsimp only; omega, by dsimp only; omega, fun j hj z hz => (Nat.lt_succ_iff_lt_or_eq.1 hj).elim (fun h => hp j h z hz) (fun e => by subst e; rw [hx] at hz; rw [← Option.some.inj hz]; exact ⟨by omega, by omega, by omega, by omega, by omega, hbw h57⟩)⟩) (by dsimp only; omega) aK wK (hh.sub (⟨⟨_, rfl, ⟨⟨_, rfl, zc _⟩, ⟨⟨_, rfl, zc _⟩, ⟨⟨_, rfl, zc _⟩, ⟨⟨_, rfl, zc _⟩, ⟨⟨_, rfl, zc _⟩, ⟨⟨_, rfl, zI (by simp)⟩, trivial⟩⟩⟩⟩⟩⟩⟩, [], by decide, trivial⟩))
      · have h22 : ¬ (i : Int) < (is.length : Int) := of_decide_eq_false hb22
        refine zQ ?_
        repeat (first | refine zX ?_ | refine zY (by decide) ?_)
        refine zZ ?_
        refine zj ?_
        refine zh ?_
        refine zi ?_
        refine za rfl (jM rfl) ?_
        refine zF ?_
        refine zj ?_
        refine zV (fn := Tryz.f33) (⟨true, fun _ => ⟨by omega, fun x hx => by obtain ⟨j, hj⟩ := List.getElem?_of_mem hx; exact hp j (by have := (List.getElem?_eq_some_iff.1 hj).1; omega) x hj⟩⟩) [] (fun _ _ h => h) (Rs.le (zG rfl (zk rfl)) ?_) (by decide) trivial
        exact zc _
end
section
section
variable {P:Program}{Γ:Cx}{σ:St}{S:List Nat}{dst:Option Tmp}{ty:TypeId}{pos:String}{af:Array Edge}{gd:Option (Nat × Bool)}{d:D}{Q:Exit→Act→World→Prop}
theorem jL {x:Operand} {T k n p e sz c:Nat} {A:Option Addr} {F:LN} {α:Type} {enc:α→List D} {l:List α} (j:Nat) (hx:σ.ev x=some (isD<|elP A p)) (hj:σ.bx[j]? =some (.r F<|yi e sz enc A c l)) (h0:0 < l.length) (hf:fldO P T k=some n):Rd P Γ S ⟨dst,.fieldAddr T x k,ty,pos,af,gd⟩ σ (isD<|elP A<|p + n):=by
 intro a w hh;obtain ⟨g,cur,xs,rfl,_⟩:=YX (hh.resAt hj) h0;obtain ⟨v,hv,hr⟩:=zg (P:=P) (Γ:=Γ) (S:=S) (dst:=dst) (ty:=ty) (pos:=pos) (af:=af) (gd:=gd) (g:=g) (o:=0 + p) hx hf a w hh;refine ⟨v,?_,hr⟩;have e1:v= .pointer (some ⟨g,0 + p + n,none⟩):=hv;show v=elP (some ⟨g,0,none⟩) (p + n);rw [e1,elP,Option.map_some,J9]
theorem zag {x:Operand} {T e c i k:Nat} {A:Option Addr} {F:LN} {α:Type} {enc:α→List D} {l:List α} {v:α} (j sz:Nat) [Row enc sz] (hx:σ.ev x=some (isD<|elP A<|i * sz + k)) (hj:σ.bx[j]? =some (.r F<|yi e sz enc A c l)) (hT:jx P T=true) (hv:l[i]? =some v) (hd:(enc v)[k]? =some d) (hk:k < sz) (hS:Ap σ j S):Rd P Γ S ⟨dst,.load T x,ty,pos,af,gd⟩ σ d:=by
 intro a w hh;have hxv:a.eval x=elP A (i * sz + k):=zR hh hx;have hi:=(Jg.1 hv).1;have hR:=hh.resAt hj;obtain ⟨g,cur,xs,rfl,rfl,hg,hnc,hm,hcs,htk,hxl,ha⟩:=YX hR o9;have hd2:=ha.drop (i * sz);rw [jD (enc:=enc) (sz:=sz) l i v hv] at hd2;have ht:=hd2.take sz;have hlen:=Row.len (enc:=enc) (sz:=sz) v
 have ht':All (σ.L Γ) w (enc v) ((xs.drop<|i * sz).take sz):=by
  rw [JQ o9,Ji o9] at ht;exact ht
 obtain ⟨u,h1,h2⟩:=ht'.at hd;refine ⟨u,h2,fun w' ho=> ?_⟩;have hg':w'.heap[g]? =some (.cells cur e (0,0)):=(ho.block g (Jn.1 hg).1 (fun hm=>hS.spec hh.nd hj g hm<|m9 rfl)).trans hg
 have h3:w'.cell? ⟨g,i * sz + k,none⟩=some u:=by
  rw [List.getElem?_take_of_lt hk,List.getElem?_drop,← htk,JP] at h1
  split at h1
  ·simpa [World.cell?,hg'] using h1
  ·cases h1
 have h4:=ZI (P:=P) hT h3;simp only [execOp,hxv,elP,Option.map_some,JF,h4,JD,Jv,JK]
