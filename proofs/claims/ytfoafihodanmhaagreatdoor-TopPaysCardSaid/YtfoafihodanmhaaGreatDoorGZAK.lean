/- CLAIMS: Valid, claim. METHOD VALUES in the words of Sy: a function that holds its first arguments. Over any program. WALKING CODE BY WHAT IS KNOWN: co -/
import Derived.Test.YtfoafihodanmhaaGreatDoorChecked
import Derived.Test.YtfoafihodanmhaaGreatDoorGZAI
import Derived.Test.YtfoafihodanmhaaGreatDoorGZAJ
set_option maxHeartbeats 8000000
set_option maxRecDepth 100000
namespace Go.Proofs.YtfoafihodanmhaaGreatDoor
open Go.RowKit
namespace Sx
section
def yJ (c:Co.Cl):List D:=[iD c.win,iD c.cnt]
instance:Row yJ 2:=⟨fun _=>rfl,fun x=>by unfold yJ;infer_instance,by decide⟩
instance (c:Co.Cl):Ones (yJ c):=by unfold yJ;infer_instance
def ZM (c:Co.Wi):List D:=[iD c.win,iD c.st,iD c.val]
instance:Row ZM 3:=⟨fun _=>rfl,fun x=>by unfold ZM;infer_instance,by decide⟩
instance (c:Co.Wi):Ones (ZM c):=by unfold ZM;infer_instance
theorem Vh (b:Int) (l:List Co.Cl) (hl:l.length≤1000000):Con Tryz.prog 44 [iD b,lsD yJ l] (yL<|decide (Co.VC b l)):=by
 refine yy Tryz.func44 k9 I k9 fun base w0=>(zn<|zf I<|ze<|zh<|zn<|zd I<|za I (yc I I)<|zd I<|z1 11 I (fun hb11=> ?_) (fun hb11=> ?_))
 ·have h11:b < 1:=oT hb11;refine zt hb11 (zt hb11<|za I (zE I hb11 I)<|zd I<|zt I<|zt I<|zt I<|za I (zE I I I)<|ze<|yj I I<|zn<|zf I<|ze<|zO (fn:=Tryz.f44) (fun _ _ h=>h)<|Rs.le (zG I<|zk I) ?_);exact Zg (by symm;apply Jd;intro h;have h1:=h.b1;have h2:=h.b2;have h3:=h.n;omega)
 ·have h11:¬b < 1:=oF hb11;refine zJ hb11 (zH I) (zJ hb11 (yV I I)<|za I (zw I hb11 I)<|zd I<|z1 15 I (fun hb15=> ?_) (fun hb15=> ?_))
  ·have h15:b > 12:=oT hb15;refine zt hb15 (zt hb15<|zt hb15<|za I (zE I hb15 I)<|ze<|yj I I<|zn<|zf I<|ze<|zO (fn:=Tryz.f44) (fun _ _ h=>h)<|Rs.le (zG I<|zk I) ?_);exact Zg (by symm;apply Jd;intro h;have h1:=h.b1;have h2:=h.b2;have h3:=h.n;omega)
  ·have h15:¬b > 12:=oF hb15;refine zJ hb15 (zH I) (zJ hb15 (zT (e:=70) I k9)<|zJ hb15 (yV I I)<|za I (zw I hb15 I)<|ze<|zC I (fun hb19=> ?_) (fun hb19=> ?_))
   ·have h19:(l.length:Int) > 6:=oT hb19;refine zn (zf I<|ze<|zO (fn:=Tryz.f44) (fun _ _ h=>h)<|Rs.le (zG I<|zk I) ?_);exact Zg (by symm;apply Jd;intro h;have h1:=h.b1;have h2:=h.b2;have h3:=h.n;omega)
   ·have h19:¬(l.length:Int) > 6:=oF hb19;refine zq (zj<|zn<|zd I<|zf I<|zf I<|ze<|zh<|zn<|zd I<|za I (zT (e:=70) I k9)<|zd I<|ze<|SW.block<|yd (ι:={i:Nat // i≤l.length∧Co.PC l i∧Co.sC (l.take i)≤b}) (fun i=>yb [(5,iD<|Co.lastW l i.1),(6,iD<|b - Co.sC (l.take i.1)),(21,lsD yJ l),(22,iD (l.length:Int)),(23,iD (i.1:Int))] []) (fun i=>l.length - i.1) (⟨0,JC _,Co.PC.zero,by simp [Co.sC];omega⟩) ?_ ?_)
    ·exact ⟨⟨_,I,⟨lq I,⟨⟨_,I,zI (by simp [Co.sC])⟩,(sT I)⟩⟩⟩,[],by decide,trivial⟩
    ·rintro ⟨i,hi,hp,hs⟩ K0 hK0;dsimp only at hi hp hs ⊢;have hs0:=hp.sum;refine zn (za I (yc I I)<|ze<|zh<|zC I (fun hb24=> ?_) (fun hb24=> ?_))
     ·have h24:(i:Int) < (l.length:Int):=oT hb24;refine zq (zj<|zh<|SW.block<|zh ?_);obtain ⟨x,hx⟩:∃ x,l[i]? =some x:=⟨_,Je o9⟩;have hst:=Co.sC_take l i x hx;refine zi (za I (zU (e:=70) 2 I I k9 k9 o9 (by simpa using hx))<|za I (yn 2 I k9 d9 (show 2≤2 by decide) s9) (SWl.e2 (S:=[]) (Ef.alloc (zs:=[.int .i64 0,.int .i64 0]) k9 I) fun g8=>(zu (S:=[_]) (zA 0 I I I k9 I<|m9 I)<|ze<|zh<|zn<|za I (zg (n:=0) I k9)<|za I (zp 0 I I I k9 zm)<|zd I<|za I (Zn I I)<|zd I<|z1 31 I (fun hb31=> ?_) (fun hb31=> ?_))))
      ·have h31:x.win≤Co.lastW l i:=oT hb31;refine zt hb31 (zt hb31<|zt hb31<|za I (zE I hb31 I)<|zd I<|zt I<|zt I<|zt I<|za I (zE I I I)<|zd I<|zt I<|zt I<|zt I<|zt I<|za I (zE I I I)<|ze<|yj I I<|zn<|zf I<|ze<|zO (fn:=Tryz.f44) (fun _ _ h=>h)<|Rs.le (zG I<|zk I) ?_);exact Zg (by symm;apply Jd;intro h;have h1:=(Co.PC.step hx hp).1 (h.pc<|i + 1);have h2:=h.part hx;omega)
      ·have h31:¬x.win≤Co.lastW l i:=oF hb31;refine zJ hb31 (zg (n:=0) I k9) (zJ hb31 (zp 0 I I I k9 zm)<|zJ hb31 (YF I I)<|za I (zw I hb31 I)<|zd I<|z1 36 I (fun hb36=> ?_) (fun hb36=> ?_))
       ·have h36:x.win≥32:=oT hb36;refine zt hb36 (zt hb36<|zt hb36<|za I (zE I hb36 I)<|zd I<|zt I<|zt I<|zt I<|zt I<|za I (zE I I I)<|ze<|yj I I<|zn<|zf I<|ze<|zO (fn:=Tryz.f44) (fun _ _ h=>h)<|Rs.le (zG I<|zk I) ?_);exact Zg (by symm;apply Jd;intro h;have h1:=(Co.PC.step hx hp).1 (h.pc<|i + 1);have h2:=h.part hx;omega)
       ·have h36:¬x.win≥32:=oF hb36;refine zJ hb36 (zg (n:=1) I k9) (zJ hb36 (zp 0 I I I k9 zm)<|zJ hb36 (yc I I)<|za I (zw I hb36 I)<|zd I<|z1 41 I (fun hb41=> ?_) (fun hb41=> ?_))
        ·have h41:x.cnt < 1:=oT hb41;refine zt hb41 (zt hb41<|zt hb41<|zt hb41<|za I (zE I hb41 I)<|ze<|yj I I<|zn<|zf I<|ze<|zO (fn:=Tryz.f44) (fun _ _ h=>h)<|Rs.le (zG I<|zk I) ?_);exact Zg (by symm;apply Jd;intro h;have h1:=(Co.PC.step hx hp).1 (h.pc<|i + 1);have h2:=h.part hx;omega)
        ·have h41:¬x.cnt < 1:=oF hb41;refine zJ hb41 (zg (n:=1) I k9) (zJ hb41 (zp 0 I I I k9 zm)<|zJ hb41 (zH I)<|zJ hb41 (yV I I)<|za I (zw I hb41 I)<|ze<|zC I (fun hb46=> ?_) (fun hb46=> ?_))
         ·have h46:x.cnt > b - Co.sC (l.take i):=oT hb46;refine zn (zf I<|ze<|zO (fn:=Tryz.f44) (fun _ _ h=>h)<|Rs.le (zG I<|zk I) ?_);exact Zg (by symm;apply Jd;intro h;have h1:=(Co.PC.step hx hp).1 (h.pc<|i + 1);have h2:=h.part hx;omega)
         ·have h46:¬x.cnt > b - Co.sC (l.take i):=oF hb46;exact zq (zj<|zn<|za I (zg (n:=0) I k9)<|za I (zp 0 I I I k9 zm)<|zf I<|ze<|zi<|zd I<|za I (zg (n:=1) I k9)<|za I (zp 0 I I I k9 zm)<|za I (yG I I ⟨by omega,by omega⟩)<|zf I<|zF<|SN.block<|zj<|zi<|za I (Rd.add I I ⟨by omega,by omega⟩)<|zd I<|zF (fun a w hh=>hK0 (⟨i + 1,by omega,(Co.PC.step hx hp).2 ⟨by omega,by omega,by omega⟩,by rw [hst];omega⟩) (by dsimp only;omega) a w<|hh.sub<|⟨⟨_,I,⟨⟨_,I,zI (by rw [Co.lastW_succ hx])⟩,⟨⟨_,I,zI (by rw [hst];congr 1;omega)⟩,⟨lq I,⟨lq I,⟨⟨_,I,zI s9⟩,t9⟩⟩⟩⟩⟩⟩,[],by decide,trivial⟩))
     ·have h24:¬(i:Int) < (l.length:Int):=oF hb24;refine zQ ?_
      repeat (first | refine zX ?_ | refine zY d9 ?_)
      refine zZ (zj<|zn<|zf I<|ze<|zO (fn:=Tryz.f44) (fun _ _ h=>h)<|Rs.le (zG I<|zk I) ?_);exact Zg (Jo<|Co.vc_of o9 o9 o9 (show i=l.length by omega) hp hs).symm
theorem zfk (g3:Nat) (w:Int) (x:Co.Cl):ConR Tryz.prog 131 [.c g3 [iD w]] [Z8 [iD x.win,iD x.cnt],pA g3] (fun _:Unit=>[.c g3 [iD w]]) (fun _:Unit=>yL<|decide (x.win=w)):=by
 refine yt Tryz.func131 k9 I k9 fun base w0=>(zn (SWl.e2 (S:=[]) (ym I I) fun g2=>(zf I<|zN<|za I (zg (n:=0) I k9)<|za I (zp 1 I I I k9 zm)<|za I (zp 0 I I I k9 zm)<|za I (Zr I I)<|zf I<|ze<|zV (fn:=Tryz.f131) (()) [0] (fun _ _ h=>h) (Rs.le (zG I<|zk I) ?_) d9 ⟨la I,t9⟩)));exact zc _
theorem con_idxF (g3:Nat) (w:Int) (l:List Co.Cl) (hl:l.length≤1000000):ConR Tryz.prog 130 [.c g3 [iD w]] [lsD yJ l,isD<|.func (.func 131) #[] #[.pointer<|some ⟨g3,0,none⟩]] (fun _:Unit=>[.c g3 [iD w]]) (fun _:Unit=>iD<|Co.fZ l w):=by
 refine yt Tryz.func130 k9 I k9 fun base w0=>(zn<|zf I<|ze<|zh<|zn<|zd I<|za I (zT (e:=70) I k9)<|zd I<|ze<|SW.block<|yd (ι:={i:Nat // i≤l.length∧∀ j < i,∀ d,l[j]? =some d→d.win≠w}) (fun i=>yb [(0,lsD yJ l),(1,isD<|.func (.func 131) #[] #[.pointer<|some ⟨g3,0,none⟩]),(7,iD (l.length:Int)),(8,iD (i.1:Int))] [.c g3 [iD w]]) (fun i=>l.length - i.1) (⟨0,JC _,fun _ h=>absurd h<|Nat.not_lt_zero _⟩) ?_ ?_)
 ·exact (sB [0] I I)
 ·rintro ⟨i,hi,hp⟩ K0 hK0;dsimp only at hi hp ⊢;refine zn (za I (yc I I)<|ze<|zh<|zC I (fun hb9=> ?_) (fun hb9=> ?_))
  ·have h9:(i:Int) < (l.length:Int):=oT hb9;refine zq (zj<|zh<|SW.block<|zn<|zd I<|zf I<|ze<|zh ?_);obtain ⟨x,hx⟩:∃ x,l[i]? =some x:=⟨_,Je o9⟩;refine zi (zd I<|zd I<|zd I<|za I (zU (e:=70) 2 I I k9 k9 o9 (by simpa using hx))<|za I (yn 2 I k9 d9 (show 2≤2 by decide) s9) (SWl.e2 (KZ (cap:=[.pointer<|some ⟨g3,0,none⟩]) [0] (zfk g3 w x) I I ⟨zc _,zc _,t9⟩ d9 ⟨la I,t9⟩ (fun _ h=>h) I) fun _=>(ze<|zC I (fun hb16=> ?_) (fun hb16=> ?_))))
   ·have h16:x.win=w:=oT hb16;refine zn (zd I<|zf I<|ze<|zV (fn:=Tryz.f130) (()) [0] (fun _ _ h=>h) (Rs.le (zG I<|zk I) ?_) d9 ⟨la I,t9⟩);exact zI (by rw [Co.fZ_some hx h16 hp])
   ·have h16:¬x.win=w:=oF hb16;exact zq (SN.block<|zj<|zi<|za I (Rd.add I I ⟨by omega,by omega⟩)<|zd I<|zF (fun a w hh=>hK0 (⟨i + 1,by omega,fun j hj d hd=>(Nat.lt_succ_iff_lt_or_eq.1 hj).elim (fun h=>hp j h d hd) (fun e=>by subst e;rw [hx] at hd;rw [← Option.some.inj hd];exact h16)⟩) (by dsimp only;omega) a w<|hh.sub<|⟨⟨_,I,⟨lq I,⟨lq I,⟨lq I,⟨⟨_,I,zI s9⟩,t9⟩⟩⟩⟩⟩,[0],by decide,⟨la rfl,trivial⟩⟩))
  ·have h9:¬(i:Int) < (l.length:Int):=oF hb9;refine zQ ?_
   repeat (first | refine zX ?_ | refine zY d9 ?_)
   refine zZ (zj<|zn<|zf I<|ze<|zV (fn:=Tryz.f130) (()) [0] (fun _ _ h=>h) (Rs.le (zG I<|zk I) ?_) d9 ⟨la I,t9⟩);exact zI (by rw [Co.fZ_none fun j c hc=>hp j (by have:=(Jg.1 hc).1;omega) c hc])
theorem zcm (l:List Co.Cl) (w:Int) (hl:l.length≤1000000):Con Tryz.prog 89 [lsD yJ l,iD w] (iD<|Co.fZ l w):=by
 refine yy Tryz.func89 k9 I k9 fun base w0=>(zn (SWl.e2 (S:=[]) (Y6 I (fun _ _ _ h=>Zo<|One.h _ _ _ h) I) fun g3=>(zf I<|zN<|zd I<|za I (YA [.pointer<|some ⟨g3,0,none⟩] I) (SWl.e2 (yh [0] (con_idxF g3 w l hl) I ⟨zc _,zc _,t9⟩ d9 ⟨la I,t9⟩ (fun _ h=>h) I) fun _=>(zf I<|ze<|zO (fn:=Tryz.f89) (fun _ _ h=>h)<|Rs.le (zG I<|zk I) ?_)))));exact zc _
end
section
section
variable {P:Program}{Γ:Cx}{σ:St}{S:List Nat}{dst:Option Tmp}{ty:TypeId}{pos:String}{af:Array Edge}{gd:Option (Nat × Bool)}
theorem Yn {fn:Fn} {bp:Array Operand} (cs:List Value) (hc:σ.evs bp.toList=some (cs.map isD)):Rd P Γ S ⟨dst,.makeFunc fn bp #[],ty,pos,af,gd⟩ σ (isD<|.func fn cs.toArray #[]):=by
 intro a w hh;have hall:=Zt hh hc
 have key:∀ {zs cs:List Value},All (σ.L Γ) w (zs.map isD) cs→cs=zs:=by
  intro zs
  induction zs with
  | nil=>intro cs h;cases cs with | nil=>rfl | cons=>exact h.elim
  | cons z zs ih=>intro cs h;cases cs with | nil=>exact h.elim | cons c cs=>rw [ih h.2,show c=z from h.1]
 have e:bp.map a.eval=cs.toArray:=by
  apply Xe;simpa using key hall
 exact ⟨_,I,fun w' _=>by simp [execOp,Instr.makeFunc,e]⟩
end
end
section
def prD (P:Program) (dom:Int→Prop) (f:Int→Bool):D:=⟨fun L w v=>∃ (F:FuncId) (bd cs:List Value) (ds:List D),v= .func (.func F) bd.toArray cs.toArray∧All L w ds cs∧∀ z,dom z→Con P F (bd.map isD ++ iD z :: ds) (isD<|.bool<|f z),
 fun ⟨F,bd,cs,ds,h,k,q⟩ ho hS=>⟨F,bd,cs,ds,h,k.keep ho hS,q⟩,fun ⟨F,bd,cs,ds,h,k,q⟩ hS=>⟨F,bd,cs,ds,h,k.less hS,q⟩⟩
instance (P:Program) (dom:Int→Prop) (f:Int→Bool):One (prD P dom f):=⟨fun _ _ _ h=>by obtain ⟨F,bd,cs,ds,rfl,_⟩:=h;rfl⟩
theorem zd0 {P:Program} {dom:Int→Prop} {f:Int→Bool} {F:FuncId} (bd:List Value) (h:∀ z,dom z→Con P F (bd.map isD ++ [iD z]) (isD<|.bool<|f z)):Le (isD<|.func (.func F) bd.toArray #[]) (prD P dom f):=fun _ _ _ hv=>⟨F,bd,[],[],hv,trivial,h⟩
theorem zbn {P:Program} {dom:Int→Prop} {f:Int→Bool} {F:FuncId} {ds:List D} (h:∀ z,dom z→Con P F (iD z :: ds) (isD<|.bool<|f z)):Le (fnD F ds) (prD P dom f):=fun _ _ _ ⟨cs,hv,ha⟩=>⟨F,[],cs,ds,hv,ha,h⟩
theorem zc1 {P:Program} {dom:Int→Prop} {f:Int→Bool} {F:FuncId} (h:∀ z,dom z→Con P F [iD z] (isD<|.bool<|f z)):Le (isD<|.func (.func F) #[] #[]) (prD P dom f):=fun _ _ _ hv=>⟨F,[],[],[],hv,trivial,h⟩
section
variable {P:Program}{Γ:Cx}{σ:St}{S:List Nat}{dst:Option Tmp}{ty:TypeId}{pos:String}{af:Array Edge}{gd:Option (Nat × Bool)}{d:D}{Q:Exit→Act→World→Prop}{a:Act}{w:World}
theorem Rd.mono {d':D} {o:Oper} (h:Rd P Γ S o σ d) (hl:Le d d'):Rd P Γ S o σ d':=fun a w hh=>by
 obtain ⟨v,h1,h2⟩:=h a w hh;exact ⟨v,hl _ _ _ h1,h2⟩
theorem zbU {x:Operand} {f:FuncId} {args:Array Operand} {aT:Array TypeId} {bd cap:List Value} (hen:Y1 P f) (hx:a.eval x= .func (.func f) bd.toArray cap.toArray):
  (execOp a.eval ⟨dst,.call { callee:= .value x,args:=args,argTypes:=aT },ty,pos,af,gd⟩).run P w= .ok (.enter f (bd ++ args.toList.map a.eval ++ cap).toArray) w:=by
 have h:=hen (bd ++ args.toList.map a.eval ++ cap).toArray w
 have e1:bd.toArray ++ (args.map a.eval) ++ cap.toArray=(bd ++ args.toList.map a.eval ++ cap).toArray:=by apply Xe;simp
 simp only [execOp,resolve,hx,Deferred.ofValue,JD,JK,Jv,invoke];rw [e1];exact h
theorem zbJ {x y:Operand} {aT:Array TypeId} {dom:Int→Prop} {f:Int→Bool} {z:Int} {k:Nat} (hx:σ.ev x=some (prD P dom f)) (hy:σ.ev y=some (iD z)) (hz:dom z) (hk:yp Γ.nt k=true):
  Ef P Γ S ⟨some k,.call { callee:= .value x,args:= #[y],argTypes:=aT },ty,pos,af,gd⟩ σ (fun σ'=>σ'=σ.put k (isD<|.bool<|f z)):=by
 intro a w hh K Q hK;obtain ⟨F,bd,cs,ds,hv,ha,hq⟩:=zR hh hx;have hcon:=hq z hz;have hyv:a.eval y= .int .i64 z:=zR hh hy;unfold Oper.wp;rw [zbU hcon.en hv];simp only [Oper.upon]
 have hall:All (σ.L Γ) w (bd.map isD ++ iD z :: ds) (bd ++ #[y].toList.map a.eval ++ cs):=by
  rw [Jq];exact (jr bd).append (All.append (ds:=[iD z]) (cs:=[a.eval y]) ⟨hyv,t9⟩ ha)
 refine (hcon.go (σ.L Γ) w _ hh.lt hh.gl hall).mono ?_;rintro r w' ⟨v,rfl,hd,ho⟩;exact hK _ _ _ I ((hh.keep ho).put (by simpa [yp] using hk) hd) (ho.mono s9)
theorem Holds.freezeF2 (h:Holds Γ σ a w) {i j k g g':Nat} {f:FuncId} {ds ds':List D} (hi:σ.bx[i]? =some (.c g ds)) (hj:σ.bx[j]? =some (.c g' ds')) (hij:Nat.beq i j=false) (hk:σ.tm k=some (isD<|.func (.func f) #[] #[.pointer<|some ⟨g,0,none⟩,.pointer<|some ⟨g',0,none⟩])):Holds Γ ((⟨σ.tm,yQ σ.bx 0 [i,j]⟩:St).put k<|fnD f [paD ds,paD ds']) a w:=by
 refine (h.drop [i,j]).learn ?_;have hv:a.tmps.getD k undef= .func (.func f) #[] #[.pointer<|some ⟨g,0,none⟩,.pointer<|some ⟨g',0,none⟩]:=h.tm k _ hk;rw [hv]
 have hL:∀ x∈fps (yQ σ.bx 0 [i,j]) ++ Γ.base,x∈σ.L Γ:=fun x hx=>by
  rcases Jf.1 hx with hx | hx
  ·exact mL _ (ZN hx)
  ·exact mR _ hx
 have one:∀ (q g:Nat) (ds:List D),σ.bx[q]? =some (.c g ds)→q∈[i,j]→At (fps (yQ σ.bx 0 [i,j]) ++ Γ.base) w (some ⟨g,0,none⟩) ds:=fun q g ds hq hm=>by
  obtain ⟨t,cs,hb,ha⟩:=h.bx (.c g ds) (Jc hq);intro _;refine ⟨g,0,I,hb.lt,fun hx=> ?_,cs,ha.less (fun x hx=> .inl<|hL x hx),fun r hr=>by rw [JF];exact hb.cell r⟩;rcases Jf.1 hx with hx | hx
  ·obtain ⟨c,hc,hgc⟩:=yz.1 hx;obtain ⟨i',h1,h2⟩:=Z5 hc;have:=Wx h.nd h1 hq hgc (m9 rfl);subst this;exact absurd hm (by rwa [JF] at h2)
  ·have h1:=h.bs g hx;rcases h.nw g (yz.2 ⟨_,Jc hq,m9 rfl⟩) with h2 | h2
   ·omega
   ·exact h.dj.1 g h2 hx
 exact ⟨[.pointer<|some ⟨g,0,none⟩,.pointer<|some ⟨g',0,none⟩],I,⟨⟨g,0,none⟩,I,one i g ds hi s9⟩,⟨⟨g',0,none⟩,I,one j g' ds' hj s9⟩,t9⟩
theorem SW.freezeF2 {c:Code} (i j k:Nat) {g g':Nat} {f:FuncId} {ds ds':List D} (hi:σ.bx[i]? =some (.c g ds)) (hj:σ.bx[j]? =some (.c g' ds')) (hij:Nat.beq i j=false) (hk:σ.tm k=some (isD<|.func (.func f) #[] #[.pointer<|some ⟨g,0,none⟩,.pointer<|some ⟨g',0,none⟩])) (h:SW P Γ ((⟨σ.tm,yQ σ.bx 0 [i,j]⟩:St).put k<|fnD f [paD ds,paD ds']) c Q):SW P Γ σ c Q:=fun a w hh=>h a w (hh.freezeF2 hi hj hij hk)
theorem zae {ops:Array Oper} {lo:List Oper} (j k:Nat) {g:Nat} {f:FuncId} {ds:List D} (hj:σ.bx[j]? =some (.c g ds)) (hk:σ.tm k=some (isD<|.func (.func f) #[] #[.pointer<|some ⟨g,0,none⟩])) (h:SWl P Γ ops Q lo ((⟨σ.tm,yQ σ.bx 0 [j]⟩:St).put k<|fnD f [paD ds])):SWl P Γ ops Q lo σ:=fun a w hh=>h a w (hh.freezeF hj hk)
def Cx.mks (Γ:Cx) (l:LN):Cx:={ Γ with df:=l.map (fun dk=>{ target:= .collected dk,args:= #[] }) ++ Γ.df }
def Y0:Res where
 R _ F w:=∀ g∈F,w.heap[g]? =some (.deferred<|some [])
 lt:=fun h g hg=>(Jn.1<|h g hg).1
 keep:=fun h ho _ hn g hg=>(ho.block g (Jn.1<|h g hg).1 (fun hm=>hn g hm hg)).trans (h g hg)
 less:=fun h _=>h
theorem SW.marks0 {c:Code} (h:SW P Γ ⟨σ.tm,σ.bx ++ [.r [] Y0]⟩ c Q):SW P Γ σ c Q:=fun a w hh=>h a w (hh.more (Only.refl [] w) (b:= .r [] Y0) (fun g hg=>by cases hg) (by simp [Box.fp]) (by simp [Box.fp]))
theorem zeO {dk:Nat} {dks:LN}:Opens [.r dks Y0,.r [dk] dfR] (fun q=>q=[.r (dk :: dks) Y0]):=fun L w hnd hb=>by
 have h1:=hb _ mC;obtain ⟨q,hq,h2⟩:=hb _ (Jl _ mC);injection hq with hq;subst hq
 have e:fps [Box.r dks Y0,.r [dk] dfR]=dks ++ [dk]:=by simp [fps,Box.fp]
 rw [e] at hnd;refine ⟨_,I,fun b hbm=> ?_,?_,fun g hg=> ?_⟩
 ·rw [Ja.1 hbm];intro g hg;rcases Jt.1 hg with rfl | hg
  ·exact h2
  ·exact h1 g hg
 ·rw [YS];have:=JH.1 hnd;exact Xd.2 ⟨fun hm=>this.2.2 dk hm dk (m9 I) I,this.1⟩
 ·rw [YS] at hg;rw [e];rcases Jt.1 hg with rfl | hg
  ·exact mR _ (m9 I)
  ·exact mL _ hg
theorem zaH:∀ (B:List Box) (k:Nat) (y:Box),yQ (B ++ [y]) k [k + B.length]=B
 | [],k,y=>by simp [yQ,KF.2<|m9 rfl]
 | b :: B,k,y=>by
  have ih:=zaH B (k + 1) y;rw [show k + 1 + B.length=k + (b :: B).length by rw [Xm];omega] at ih;rw [List.cons_append,yQ]
  have hn:k∉[k + (b :: B).length]:=fun hm=>by have:=Ja.1 hm;rw [Xm] at this;omega
  have hb:isIn k [k + (b :: B).length]=false:=by cases h:isIn k [k + (b :: B).length] with
   | false=>rfl
   | true=>exact absurd (KF.1 h) hn
  rw [hb,ih]
  rfl
theorem zew {fn:Func} {R:Ending→World→Prop}:∀ (dks:LN) {σ:St} (j:Nat),σ.bx[j]? =some (.r dks Y0)→RM P fn R Γ ⟨σ.tm,yQ σ.bx 0 [j] ++ []⟩→RM P fn R (Γ.mks dks) σ
 | [],σ,j,hj,h=>fun a w hh=>by
  have hsub:SubBx σ.bx [j] [.r [] Y0]:=⟨⟨_,hj,zM _⟩,trivial⟩;exact h a w ((hh.give (post:=[]) hsub (Only.refl _ w) s9 (by simp [fps]) (by simp [fps])).1)
 | dk :: dks,σ,j,hj,h=>fun a w hh=>by
  have hR:=hh.resAt hj;have hdk:=hR dk mC;have hnd:=jU hh.nd (Jc hj);have hd:a.defers={ target:= .collected dk,args:= #[] } :: (Γ.mks dks).df:=hh.df;rw [hd];have hsub:SubBx σ.bx [j] [.r (dk :: dks) Y0]:=⟨⟨_,hj,zM _⟩,trivial⟩;have ho:Only [dk] w (w.putObj dk<|.deferred none):=KD
  have hg:=(hh.give (w':=w.putObj dk<|.deferred none) hsub (ho.mono (by intro z hz _;rw [Ja.1 hz];simp [fps,Box.fp])) (post:=[.r dks Y0]) (fun b hb=>by
   rw [Ja.1 hb];intro g hg;have hne:g∉[dk]:=fun hm=>(Xd.1 hnd).1 (by rw [← Ja.1 hm];exact hg);have h1:=hR g (Jl _ hg)
   exact (ho.block g (Jn.1 h1).1 hne).trans h1) (by rw [YS];exact (Xd.1 hnd).2) (fun g hg=> .inl (by rw [YS] at hg ⊢;exact Jl _ hg))).1
  have ih:=zew dks (σ:=σ.give [j] [.r dks Y0]) (yQ σ.bx 0 [j]).length (by show (yQ σ.bx 0 [j] ++ [_])[_]? =_;rw [JR<|Js _];simp) (by
   have e:yQ (σ.give [j] [.r dks Y0]).bx 0 [(yQ σ.bx 0 [j]).length]=yQ σ.bx 0 [j]:=by
    have:=zaH (yQ σ.bx 0 [j]) 0 (.r dks Y0);rw [JF] at this;exact this
   rw [e]
   exact h)
  exact ⟨by simp,.inl ⟨dk,_,rfl,run_takeDeferred hdk,ih { a with defers:=(Γ.mks dks).df } _ ⟨rfl,hg.sz,hg.tm,hg.bx,hg.nd,hg.nw,hg.on,hg.bs,hg.dj⟩⟩⟩
end
end
section
def ZE (r:Nat→Int):List D:=(List.range 12).map fun s=>iD (r s)
instance:Row ZE 12:=⟨fun x=>by simp [ZE],fun x=>⟨fun d hd=>by
 obtain ⟨s,_,rfl⟩:=JI.1 hd
 exact One.h (d:=iD<|x s)⟩,by decide⟩
theorem Wz {r:Nat→Int} {s:Nat} (hs:s < 12):(ZE r)[s]? =some (iD<|r s):=by
 unfold ZE;rw [JJ,List.getElem?_range hs];rfl
theorem zaF {r:Nat→Int} {z:Int} {s:Nat} (hz:z=(s:Int)) (hs:s < 12):((ZE r).drop z.toNat)[0]? =some (iD<|r s):=by
 subst hz;rw [J7,List.getElem?_drop,Nat.add_zero];exact Wz hs
theorem enc12_set {r r':Nat→Int} {s:Nat} {v:Int} (h:∀ q < 12,r' q=if q=s then v else r q):ZE r'=(ZE r).set s (iD v):=by
 apply Xh;intro q
 by_cases hq:q < 12
 ·rw [Wz hq,h q hq]
  by_cases e:q=s
  ·subst e;rw [Jh rfl,List.getElem?_set_self (by simpa [ZE] using hq)]
  ·rw [Jb e,List.getElem?_set_ne (fun h=>e h.symm),Wz hq]
 ·rw [JM (by simp [ZE];omega),JM (by simp [ZE];omega)]
def Zs (l:List Co.Cl) (ws:List Co.Wi) (f:Int→Bool) (k:Nat):List (Nat→Int):=(List.range l.length).map fun i (s:Nat)=>if f (Co.wnO l i) then Co.wish (ws.take k) (Co.wnO l i) (s:Int) else 0
theorem tabR_zero (l:List Co.Cl) (ws:List Co.Wi) (f:Int→Bool):List.replicate l.length (fun _=>(0:Int))=Zs l ws f 0:=by
 apply Xh;intro i;unfold Zs
 by_cases hi:i < l.length
 ·rw [JJ,List.getElem?_range hi,Xj,Jh hi];simp [Co.wish]
 ·rw [JM (by simp;omega),JM (by simp;omega)]
theorem Kx {l:List Co.Cl} {ws:List Co.Wi} {f:Int→Bool} {k i:Nat} {c:Co.Cl} (hc:l[i]? =some c):(Zs l ws f k)[i]? =some fun s:Nat=>if f c.win then Co.wish (ws.take k) c.win (s:Int) else 0:=by
 have hi:=(Jg.1 hc).1;unfold Zs;rw [JJ,List.getElem?_range hi];rw [Option.map_some,Co.wnO_get hc]
theorem qb {l:List Co.Cl} {ws:List Co.Wi} {f:Int→Bool} {k:Nat}:(Zs l ws f k).length=l.length:=by simp [Zs]
section
variable {b:Int}{l:List Co.Cl}{ws:List Co.Wi}{f:Int→Bool}{k m:Nat}{x:Co.Wi}{c:Co.Cl}
theorem tabR_off (h:Co.VW b l ws) (hx:ws[k]? =some x) (hf:f x.win=false):Zs l ws f (k + 1)=Zs l ws f k:=by
 unfold Zs;refine List.map_congr_left fun i _=> ?_
 funext s
 rw [Co.wish_take h hx]
 by_cases e:x.win=Co.wnO l i∧x.st=(s:Int)
 ·rw [← e.1,hf];rfl
 ·rw [Jb e]
theorem tabR_on (h:Co.VW b l ws) (hx:ws[k]? =some x) (hf:f x.win=true) (hm:Co.fC l x.win=some m) (hc:l[m]? =some c) {v':Nat→Int} (hv:v'=fun s:Nat=>if f c.win then Co.wish (ws.take<|k + 1) c.win (s:Int) else 0):(Zs l ws f k).set m v'=Zs l ws f (k + 1):=by
 obtain ⟨c',hc',hw⟩:=Co.fC_is hm;rw [hc] at hc';obtain rfl:=JN hc';have hml:=(Jg.1 hc).1;apply Xh;intro i
 by_cases hi:i < l.length
 ·obtain ⟨d,hd⟩:∃ d,l[i]? =some d:=⟨_,Je hi⟩;rw [Kx hd]
  by_cases e:i=m
  ·subst e;rw [List.getElem?_set_self (by rw [qb];exact hi),hv];rw [hc] at hd;rw [JN hd]
  ·rw [List.getElem?_set_ne (fun h=>e h.symm),Kx hd];congr 1
   funext s
   have hne:¬(x.win=d.win∧x.st=(s:Int)):=fun h2=>e (h.c.inj hd hc (by rw [hw];exact h2.1.symm));rw [Co.wish_take h hx,Jb hne]
 ·rw [JM (by rw [Xl,qb];omega),JM (by rw [qb];omega)]
theorem tab_cell (h:Co.VW b l ws) (hx:ws[k]? =some x) (hf:f x.win=true) (hw:c.win=x.win) (s:Nat) (hs:x.st=(s:Int)):ZE (fun q:Nat=>if f c.win then Co.wish (ws.take<|k + 1) c.win (q:Int) else 0)=(ZE fun q:Nat=>if f c.win then Co.wish (ws.take k) c.win (q:Int) else 0).set s (iD x.val):=by
 refine enc12_set fun q _=> ?_;rw [Co.wish_take h hx,hw,hf]
 by_cases e:q=s
 ·subst e;rw [Jh rfl,Jh rfl,Jh ⟨rfl,hs⟩]
 ·rw [Jb e,Jh rfl,Jb (fun h=>e o9),Jh rfl]
end
theorem Wf {l:List Co.Cl} {ws:List Co.Wi} {f:Int→Bool} {g:Nat→Bool} {k i:Nat} {c:Co.Cl} (hk:k=ws.length) (hc:l[i]? =some c) (hg:f c.win=g i) (r:Nat):(Zs l ws f k)[i]? =some fun s=>Co.tO (Co.cs l ws g) i s:=by
 subst hk;rw [Kx hc,Ji<|Js _];congr 1
 funext s
 rw [Co.cs_tO hc,hg]
theorem KM (b:Int) (l:List Co.Cl) (ws:List Co.Wi) (hl:l.length≤1000000) (hw:ws.length≤1000000):Con Tryz.prog 43 [iD b,lsD yJ l,lsD ZM ws] (yL<|decide (Co.VW b l ws)):=by
 refine yy Tryz.func43 k9 I k9 fun base w0=>(zn<|zf I<|ze<|zh<|zn<|zd I<|zd I<|zu (S:=[]) (zv (Vh b l hl) I ⟨zc _,zc _,t9⟩ I)<|za I (yu I)<|ze<|zC I (fun hb13=> ?_) (fun hb13=> ?_))
 ·have hv:¬Co.VC b l:=by simpa using hb13
  refine zn (zf I<|ze<|zO (fn:=Tryz.f43) (fun _ _ h=>h)<|Rs.le (zG I<|zk I) ?_);exact Zg (decide_eq_false (fun h=>hv h.c)).symm
 ·have hv:Co.VC b l:=by simpa using hb13
  refine zq (zj<|zh<|zn<|zd I<|za I (zT (e:=73) I k9)<|zd I<|ze<|SW.block<|yd (ι:={k:Nat // k≤ws.length∧Co.PW b l ws k}) (fun k=>yb [(0,iD b),(1,lsD yJ l),(2,lsD ZM ws),(14,lsD ZM ws),(15,iD (ws.length:Int)),(16,iD (k.1:Int))] []) (fun k=>ws.length - k.1) (⟨0,Nat.zero_le _,Co.PW.zero⟩) ?_ ?_)
  ·exact (sB [] I I)
  ·rintro ⟨k,hk,hp⟩ K0 hK0;dsimp only at hk hp ⊢;refine zn (za I (yc I I)<|ze<|zh<|zC I (fun hb17=> ?_) (fun hb17=> ?_))
   ·have h17:(k:Int) < (ws.length:Int):=oT hb17;refine zq (zj<|zh<|SW.block<|zh ?_);obtain ⟨x,hx⟩:∃ x,ws[k]? =some x:=⟨_,List.getElem?_eq_getElem o9⟩;refine zi (zd I<|za I (zU (e:=73) 3 I I k9 k9 o9 (by simpa using hx))<|za I (yn 3 I k9 d9 (show 3≤3 by decide) s9) (SWl.e2 (S:=[]) (Ef.alloc (zs:=[.int .i64 0,.int .i64 0,.int .i64 0]) k9 I) fun g8=>(zf I<|zu (S:=[_]) (zA 0 I I I k9 I<|m9 I)<|zN<|zd I<|za I (zg (n:=0) I k9)<|za I (zp 0 I I I k9 zm)<|zu (S:=[]) (zv (zcm l x.win hl) I ⟨zc _,zc _,t9⟩ I)<|zf I<|ze<|zh<|zh ?_)));rcases Co.fZ_cases l x.win with ⟨hf,hz⟩ | ⟨m,c,hf,hz,hc,hcw⟩
    ·skip
     refine SW.sub (σ':=yb [(0,iD b),(1,lsD yJ l),(2,lsD ZM ws),(14,lsD ZM ws),(15,iD (ws.length:Int)),(16,iD (k:Int)),(7,iD (k:Int)),(8,pA g8),(9,iD<|-1)] [.c g8 [iD x.win,iD x.st,iD x.val]]) (⟨⟨_,I,⟨lq I,⟨lq I,⟨lq I,⟨lq I,⟨lq I,⟨lq I,⟨lq I,⟨lq I,⟨⟨_,I,zI (by rw [hz])⟩,t9⟩⟩⟩⟩⟩⟩⟩⟩⟩⟩,[0],by decide,⟨la rfl,trivial⟩⟩) (yl [] (rr [0,1,2,3,4,5,6,7,8,9,10,11,12,13,14,15,16,17,18,19,20,21,22,23,24,25,26,27,28] .fin) k9 k9 (fun d _ _ _ _ h=>by cases d <;> exact h)<|zz I I<|zl I I (yc I I)<|zz I I<|zD I I I d9 I I<|zD I I I d9 I I<|zD I I I d9 I I<|zl I I (zE I d9 I)<|zz I I<|zD I I I I I I<|zD I I I I I I<|zD I I I I I I<|zD I I I I I I<|zD I I I I I I<|zD I I I I I I<|zD I I I I I I<|zD I I I I I I<|zD I I I I I I<|zD I I I I I I<|zl I I (zE I I I)<|zz I I<|zD I I I I I I<|zD I I I I I I<|zD I I I I I I<|zl I I (zE I I I)<|zz I I<|zD I I I I I I<|zD I I I I I I<|zD I I I I I I<|zl I I (zE I I I)<|yE<|yj I I<|zn<|zf I<|ze<|zO (fn:=Tryz.f43) (fun _ _ h=>h)<|Rs.le (zG I<|zk I) ?_)
     exact Zg (decide_eq_false (fun h=>by obtain ⟨m,c,h1,_⟩:=h.ok k x hx;rw [hf] at h1;cases h1)).symm
    ·have hcc:=hv.cnt hc;have hc1:=(hv.ok m c hc).2.2;have hb1:=hv.b1;have hb2:=hv.b2
     refine SW.sub (σ':=yb [(0,iD b),(1,lsD yJ l),(2,lsD ZM ws),(14,lsD ZM ws),(15,iD (ws.length:Int)),(16,iD (k:Int)),(7,iD (k:Int)),(8,pA g8),(9,iD (m:Int))] [.c g8 [iD x.win,iD x.st,iD x.val]]) (⟨⟨_,I,⟨lq I,⟨lq I,⟨lq I,⟨lq I,⟨lq I,⟨lq I,⟨lq I,⟨lq I,⟨⟨_,I,zI (by rw [hz])⟩,t9⟩⟩⟩⟩⟩⟩⟩⟩⟩⟩,[0],by decide,⟨la rfl,trivial⟩⟩) (yl [] (rr [0,1,2,3,4,5,6,7,8,9,10,11,12,13,14,15,16,17,18,19,20,21,22,23,24,25,26,27,28] .fin) k9 k9 (fun d _ _ _ _ h=>by cases d <;> exact h)<|zz I I<|zl I I (yc I I)<|zz I I<|zy I I I (decide_eq_false o9) I I (zg (n:=1) I k9)<|zy I I I (decide_eq_false o9) I I (zp 0 I I I k9 zm)<|zy I I I (decide_eq_false o9) I I (yc I I)<|zl I I (zw I (decide_eq_false o9) I)<|zz I I<|Zq 32 I (fun hb32=> ?_) (fun hb32=> ?_))
     ·have h32:x.st < 0:=oT hb32;refine zD I I I hb32 I I (zD I I I hb32 I I<|zD I I I hb32 I I<|zD I I I hb32 I I<|zD I I I hb32 I I<|zD I I I hb32 I I<|zD I I I hb32 I I<|zD I I I hb32 I I<|zD I I I hb32 I I<|zD I I I hb32 I I<|zl I I (zE I hb32 I)<|zz I I<|zD I I I I I I<|zD I I I I I I<|zD I I I I I I<|zl I I (zE I I I)<|zz I I<|zD I I I I I I<|zD I I I I I I<|zD I I I I I I<|zl I I (zE I I I)<|yE<|yj I I<|zn<|zf I<|ze<|zO (fn:=Tryz.f43) (fun _ _ h=>h)<|Rs.le (zG I<|zk I) ?_);exact Zg (decide_eq_false (fun h=>by obtain ⟨m2,c2,h1,h2,h3,h4,h5,h6⟩:=h.ok k x hx;rw [hf] at h1;obtain rfl:=Option.some.inj h1;rw [hc] at h2;obtain rfl:=Option.some.inj h2;omega)).symm
     ·have h32:¬x.st < 0:=oF hb32;refine zy I I I hb32 I I (zg (n:=1) I k9) (zy I I I hb32 I I (zp 0 I I I k9 zm)<|zy I I I hb32 I I (zH I)<|zy I I I hb32 I I (zH I)<|zy I I I hb32 I I (zH I)<|zy I I I hb32 I I (zU (e:=70) 2 I I k9 k9 o9 (by simpa using hc))<|zy I I I hb32 I I (yo (n:=1) I k9 (show 1 < 2 by decide))<|zy I I I hb32 I I (zS I I k9 s9)<|zy I I I hb32 I I (yG I I ⟨by omega,by omega⟩)<|zy I I I hb32 I I (yV I I)<|zl I I (zw I hb32 I)<|zz I I<|Zq 44 I (fun hb44=> ?_) (fun hb44=> ?_))
      ·have h44:x.st > b - c.cnt:=oT hb44;refine zD I I I hb44 I I (zD I I I hb44 I I<|zD I I I hb44 I I<|zl I I (zE I hb44 I)<|zz I I<|zD I I I I I I<|zD I I I I I I<|zD I I I I I I<|zl I I (zE I I I)<|yE<|yj I I<|zn<|zf I<|ze<|zO (fn:=Tryz.f43) (fun _ _ h=>h)<|Rs.le (zG I<|zk I) ?_);exact Zg (decide_eq_false (fun h=>by obtain ⟨m2,c2,h1,h2,h3,h4,h5,h6⟩:=h.ok k x hx;rw [hf] at h1;obtain rfl:=Option.some.inj h1;rw [hc] at h2;obtain rfl:=Option.some.inj h2;omega)).symm
      ·have h44:¬(x.st > b - c.cnt):=oF hb44;refine zy I I I hb44 I I (zg (n:=2) I k9) (zy I I I hb44 I I (zp 0 I I I k9 zm)<|zy I I I hb44 I I (yc I I)<|zl I I (zw I hb44 I)<|zz I I<|Zq 49 I (fun hb49=> ?_) (fun hb49=> ?_))
       ·have h49:x.val < 0:=oT hb49;refine zD I I I hb49 I I (zD I I I hb49 I I<|zD I I I hb49 I I<|zl I I (zE I hb49 I)<|yE<|yj I I<|zn<|zf I<|ze<|zO (fn:=Tryz.f43) (fun _ _ h=>h)<|Rs.le (zG I<|zk I) ?_);exact Zg (decide_eq_false (fun h=>by obtain ⟨m2,c2,h1,h2,h3,h4,h5,h6⟩:=h.ok k x hx;rw [hf] at h1;obtain rfl:=Option.some.inj h1;rw [hc] at h2;obtain rfl:=Option.some.inj h2;omega)).symm
       ·have h49:¬x.val < 0:=oF hb49;refine zy I I I hb49 I I (zg (n:=2) I k9) (zy I I I hb49 I I (zp 0 I I I k9 zm)<|zy I I I hb49 I I (yV I I)<|zl I I (zw I hb49 I)<|yE<|zC I (fun hb53=> ?_) (fun hb53=> ?_))
        ·have h53:x.val > 1099511627776:=oT hb53;refine zn (zf I<|ze<|zO (fn:=Tryz.f43) (fun _ _ h=>h)<|Rs.le (zG I<|zk I) ?_);exact Zg (decide_eq_false (fun h=>by obtain ⟨m2,c2,h1,h2,h3,h4,h5,h6⟩:=h.ok k x hx;rw [hf] at h1;obtain rfl:=Option.some.inj h1;rw [hc] at h2;obtain rfl:=Option.some.inj h2;omega)).symm
        ·have h53:¬x.val > 1099511627776:=oF hb53;refine zq (zj<|zh ?_);obtain ⟨y,hy⟩:∃ y,0 < k→ws[k - 1]? =some y:=(by by_cases h:0 < k;exact ⟨ws[k - 1],fun _=>List.getElem?_eq_getElem o9⟩;exact ⟨x,fun h2=>absurd h2 h⟩)
         refine yl [] (rr [0,1,2,3,4,5,6,7,8,9,10,11,12,13,14,15,16,17,18,19,20,21,22,23,24,25,26,27,28,29,30,31,32,33,34] .fin) k9 k9 (fun d _ _ _ _ h=>by cases d <;> exact h) (zz I I<|zl I I (yV I I)<|zz I I<|Zq 56 I (fun hb56=> ?_) (fun hb56=> ?_))
         ·have h56:(k:Int) > 0:=oT hb56;refine zy I I I hb56 I I (zg (n:=0) I k9) (zy I I I hb56 I I (zp 0 I I I k9 zm)<|zy I I I hb56 I I (zH I)<|zy I I I hb56 I I (zH I)<|zy I I I hb56 I I (Rd.mono (yG I I ⟨by omega,by omega⟩) (show Le _ (iD ((k - 1:Nat):Int)) from zI (by congr 1;omega)))<|zy I I I hb56 I I (zU (e:=73) 3 I I k9 k9 o9 (by have h:=hy o9;simpa using h))<|zy I I I hb56 I I (yo (n:=0) I k9 (show 0 < 3 by decide))<|zy I I I hb56 I I (zS I I k9 s9)<|zy I I I hb56 I I (yc I I)<|zy I I I hb56 I I (zH I)<|Zq 66 I (fun hb66=> ?_) (fun hb66=> ?_))
          ·have h66:x.win < y.win:=oT hb66;refine zD I I I hb66 I I (zD I I I hb66 I I<|zD I I I hb66 I I<|zD I I I hb66 I I<|zD I I I hb66 I I<|zD I I I hb66 I I<|zD I I I hb66 I I<|zD I I I hb66 I I<|zD I I I hb66 I I<|zD I I I hb66 I I<|yk I I I I I<|yk I I I I I<|yk I I I I I<|yk I I I I I<|yk I I I I I<|yk I I I I I<|yk I I I I I<|yk I I I I I<|yk I I I I I<|zD I I I hb66 I I<|zy I I I hb56 I I (zE I hb66 I)<|zl I I (zE I hb56 I)<|yE<|yj I I<|zn<|zf I<|ze<|zO (fn:=Tryz.f43) (fun _ _ h=>h)<|Rs.le (zG I<|zk I) ?_);exact Zg (decide_eq_false (fun h=>by have h1:=h.lt (j:=k) (i:=k - 1) o9 (hy o9) hx;omega)).symm
          ·have h66:¬x.win < y.win:=oF hb66;refine zy I I I hb66 I I (zg (n:=0) I k9) (zy I I I hb66 I I (zp 0 I I I k9 zm)<|zy I I I hb66 I I (zH I)<|zy I I I hb66 I I (zH I)<|zy I I I hb66 I I (Rd.mono (yG I I ⟨by omega,by omega⟩) (show Le _ (iD ((k - 1:Nat):Int)) from zI (by congr 1;omega)))<|zy I I I hb66 I I (zU (e:=73) 3 I I k9 k9 o9 (by have h:=hy o9;simpa using h))<|zy I I I hb66 I I (yo (n:=0) I k9 (show 0 < 3 by decide))<|zy I I I hb66 I I (zS I I k9 s9)<|zy I I I hb66 I I (Zr I I)<|zy I I I hb66 I I (zH I)<|Zq 76 I (fun hb76=> ?_) (fun hb76=> ?_))
           ·have h76:x.win=y.win:=oT hb76;refine zy I I I hb76 I I (zg (n:=1) I k9) (zy I I I hb76 I I (zp 0 I I I k9 zm)<|zy I I I hb76 I I (zH I)<|zy I I I hb76 I I (zH I)<|zy I I I hb76 I I (Rd.mono (yG I I ⟨by omega,by omega⟩) (show Le _ (iD ((k - 1:Nat):Int)) from zI (by congr 1;omega)))<|zy I I I hb76 I I (zU (e:=73) 3 I I k9 k9 o9 (by have h:=hy o9;simpa using h))<|zy I I I hb76 I I (yo (n:=1) I k9 (show 1 < 3 by decide))<|zy I I I hb76 I I (zS I I k9 s9)<|zy I I I hb76 I I (Zn I I)<|zy I I I hb66 I I (zE I hb76 I)<|zy I I I hb56 I I (zw I hb66 I)<|zl I I (zE I hb56 I)<|yE<|zC I (fun hb88=> ?_) (fun hb88=> ?_))
            ·have h88:x.st≤y.st:=oT hb88;refine zn (zf I<|ze<|zO (fn:=Tryz.f43) (fun _ _ h=>h)<|Rs.le (zG I<|zk I) ?_);exact Zg (decide_eq_false (fun h=>by have h1:=h.lt (j:=k) (i:=k - 1) o9 (hy o9) hx;omega)).symm
            ·have h88:¬x.st≤y.st:=oF hb88
             exact zq (SN.block<|zj<|zi<|za I (Rd.add I I ⟨by omega,by omega⟩)<|zd I<|zF (fun a w hh=>hK0 (⟨k + 1,by omega,hp.step hx hf hc ⟨by omega,by omega,by omega,by omega⟩ fun y2 h0 hy2=>by first | omega | (have h:=hy h0;rw [h] at hy2;obtain rfl:=Option.some.inj hy2;omega)⟩) (by dsimp only;omega) a w<|hh.sub<|⟨⟨_,I,⟨lq I,⟨lq I,⟨lq I,⟨lq I,⟨lq I,⟨⟨_,I,zI s9⟩,t9⟩⟩⟩⟩⟩⟩⟩,[],by decide,trivial⟩))
           ·have h76:¬x.win=y.win:=oF hb76
            exact zD I I I hb76 I I (zD I I I hb76 I I<|zD I I I hb76 I I<|zD I I I hb76 I I<|zD I I I hb76 I I<|zD I I I hb76 I I<|zD I I I hb76 I I<|zD I I I hb76 I I<|zD I I I hb76 I I<|zy I I I hb66 I I (zw I hb76 I)<|zy I I I hb56 I I (zw I hb66 I)<|zl I I (zE I hb56 I)<|yE<|zK I I<|zq<|SN.block<|zj<|zi<|za I (Rd.add I I ⟨by omega,by omega⟩)<|zd I<|zF (fun a w hh=>hK0 (⟨k + 1,by omega,hp.step hx hf hc ⟨by omega,by omega,by omega,by omega⟩ fun y2 h0 hy2=>by first | omega | (have h:=hy h0;rw [h] at hy2;obtain rfl:=Option.some.inj hy2;omega)⟩) (by dsimp only;omega) a w<|hh.sub<|⟨⟨_,I,⟨lq I,⟨lq I,⟨lq I,⟨lq I,⟨lq I,⟨⟨_,I,zI s9⟩,t9⟩⟩⟩⟩⟩⟩⟩,[],by decide,trivial⟩))
         ·have h56:¬(k:Int) > 0:=oF hb56;refine zD I I I hb56 I I (zD I I I hb56 I I<|zD I I I hb56 I I<|zD I I I hb56 I I<|zD I I I hb56 I I<|zD I I I hb56 I I<|zD I I I hb56 I I<|zD I I I hb56 I I<|zD I I I hb56 I I<|zD I I I hb56 I I<|yk I I I I I<|yk I I I I I<|yk I I I I I<|yk I I I I I<|yk I I I I I<|yk I I I I I<|yk I I I I I<|yk I I I I I<|yk I I I I I<|yk I I I I I<|yk I I I I I<|yk I I I I I<|yk I I I I I<|yk I I I I I<|yk I I I I I<|yk I I I I I<|yk I I I I I<|yk I I I I I<|yk I I I I I<|yk I I I I I<|zD I I I hb56 I I<|zl I I (zw I hb56 I)<|yE<|zK I I<|zq<|SN.block<|zj<|zi<|za I (Rd.add I I ⟨by omega,by omega⟩) ?_)
          exact zd I (zF (fun a w hh=>hK0 (⟨k + 1,by omega,hp.step hx hf hc ⟨by omega,by omega,by omega,by omega⟩ fun y2 h0 hy2=>by first | omega | (have h:=hy h0;rw [h] at hy2;obtain rfl:=Option.some.inj hy2;omega)⟩) (by dsimp only;omega) a w<|hh.sub<|⟨⟨_,I,⟨lq I,⟨lq I,⟨lq I,⟨lq I,⟨lq I,⟨⟨_,I,zI s9⟩,t9⟩⟩⟩⟩⟩⟩⟩,[],by decide,trivial⟩))
   ·have h17:¬(k:Int) < (ws.length:Int):=oF hb17;refine zQ ?_
    repeat (first | refine zX ?_ | refine zY d9 ?_)
    refine zZ (zj<|zn<|zf I<|ze<|zO (fn:=Tryz.f43) (fun _ _ h=>h)<|Rs.le (zG I<|zk I) ?_);exact Zg (decide_eq_true<|Co.vw_of hv (show k=ws.length by omega) hp).symm
theorem con_all39 (n:Int):Con Tryz.prog 92 [iD n] (yL true):=by
 refine yy Tryz.func92 k9 I k9 fun base w0=>(zn<|zf I<|zN<|zf I<|ze<|zO (fn:=Tryz.f92) (fun _ _ h=>h)<|Rs.le (zG I<|zk I) ?_);exact zc _
