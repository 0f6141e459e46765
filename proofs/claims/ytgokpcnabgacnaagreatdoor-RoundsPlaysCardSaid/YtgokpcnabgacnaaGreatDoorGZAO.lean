/- WIRE: the writer. WIRE: numbers and bytes read, in plain terms. CALLS THAT PANIC and are lent boxes, in the words of Sy. Over any program. Slices of wh -/
import Derived.Test.YtgokpcnabgacnaaGreatDoorGZAN
set_option maxHeartbeats 8000000
set_option maxRecDepth 100000
namespace Go.Proofs.YtgokpcnabgacnaaGreatDoor
open Go.RowKit
namespace Sx
section
theorem KF (gw:Nat) (t:Ust) (o:LB) (n:Nat) (hn:n≤9223372036854775807) (ho:o.length + 10≤65536):ConR Tryz.prog 73 [.c gw [iD 0,isD<|.slice t.A (o).length t.c],.r t.F<|yP 5 1 Yt t.A t.c<|o] [pA gw,iD (n:Int)] (fun s:Ust=>[.c gw [iD 0,isD<|.slice s.A (o ++ grp n).length s.c],.r s.F<|yP 5 1 Yt s.A s.c<|o ++ grp n]) (fun s:Ust=>isD<|.tuple #[]):=by
 refine yg Tryz.func73 k9 V k9 fun base w0=>(zk<|zp<|zd V<|zt (S:=[]) (zD [0,1] (zbg o) V ⟨(yG 0 V d9 ⟨(zo<|zb _),(VF 1 V d9),t9⟩),t9⟩ V)<|za V (yS V)<|ze<|zE V V<|zr<|zn<|zk<|zp<|zd V<|za V (yF V V)<|ze<|zE V s9<|zr<|zn<|zi<|zd V<|zd V<|za V (zz V)<|za V (zc (n:=1) V k9)<|za V (zg 0 V V V k9 zh)<|zd V<|za V (ZU (r:=(n:Int)) .i64 V k9 k9<|u64_w o9 o9) (SWl.e2 (zC [1] (WG o t.A t.c t.F n o9 o9) V ⟨zb _,zb _,t9⟩ d9 ⟨lR V,t9⟩ (fun _ h=>h) V) fun sg=>(SWl.e2 (zC [0] (zdg gw (.slice t.A o.length t.c) sg.A _ sg.c (by have:=Zv (n:=n) o9;simp only [Jk];omega)) V ⟨zb _,zb _,t9⟩ d9 ⟨la V,t9⟩ (fun _ h=>h) V) fun _=>(zP ?_))));refine Z1 (fn:=Tryz.f73) (sg) [1,0] (Rs.none V) d9 (sX V)
theorem con_textS (gw:Nat) (t:Ust) (o:LB) (b:LB) (hb:o.length + b.length + 10≤65536):ConR Tryz.prog 200 [.c gw [iD 0,isD<|.slice t.A (o).length t.c],.r t.F<|yP 5 1 Yt t.A t.c<|o] [pA gw,yY b] (fun s:Ust=>[.c gw [iD 0,isD<|.slice s.A (o ++ j5 b).length s.c],.r s.F<|yP 5 1 Yt s.A s.c<|o ++ j5 b]) (fun s:Ust=>isD<|.tuple #[]):=by
 refine yg Tryz.func200 k9 V k9 fun base w0=>(zk<|zp<|zd V<|zt (S:=[]) (zD [0,1] (zbg o) V ⟨(yG 0 V d9 ⟨(zo<|zb _),(VF 1 V d9),t9⟩),t9⟩ V)<|za V (yS V)<|ze<|zE V V<|zr<|zn<|zk<|zp<|zd V<|za V (Kr V k9)<|za V (Zq V V)<|ze<|zE V (by simp;omega)<|zr<|zn<|zi<|zd V<|zd V<|za V (zz V)<|za V (zc (n:=1) V k9)<|za V (zg 0 V V V k9 zh)<|zd V<|za V (Kr V k9)<|za V (ZU (r:=((b.length:Nat):Int)) .i64 V k9 k9 (by exact u64_w o9 o9)) (SWl.e2 (zC [1] (WG o t.A t.c t.F b.length o9 o9) V ⟨zb _,zb _,t9⟩ d9 ⟨lR V,t9⟩ (fun _ h=>h) V) fun sg=>(zd V (SWl.e4 (Ef.appStr (e:=5) 1 V V V k9 k9 k9 k9 (by have:=Zv (n:=b.length) o9;simp only [Jk];omega) (fun _ h=>h) V) fun A24 F24 c24=>(SWl.e2 (zC [0] (zdg gw (.slice t.A o.length t.c) (⟨A24,c24,F24⟩:Ust).A _ (⟨A24,c24,F24⟩:Ust).c (by have:=Zv (n:=b.length) o9;simp only [Jk];omega)) V ⟨zb _,zb _,t9⟩ d9 ⟨la V,t9⟩ (fun _ h=>h) V) fun _=>(zP ?_))))))
 refine Z1 (fn:=Tryz.f200) (⟨A24,c24,F24⟩) [1,0] (Rs.none V) d9 ⟨⟨_,V,⟨zb _,zF (by rw [j5,Jq]),t9⟩⟩,⟨⟨_,V,ZZ (by rw [j5,Jq]) (by rw [j5,Jq])⟩,t9⟩⟩
theorem con_textB (gw:Nat) (t:Ust) (o:LB) (b:LB) (hb:o.length + b.length + 10≤65536):ConR Tryz.prog 130 [.c gw [iD 0,isD<|.slice t.A (o).length t.c],.r t.F<|yP 5 1 Yt t.A t.c<|o] [pA gw,bD b] (fun s:Ust=>[.c gw [iD 0,isD<|.slice s.A (o ++ j5 b).length s.c],.r s.F<|yP 5 1 Yt s.A s.c<|o ++ j5 b]) (fun s:Ust=>isD<|.tuple #[]):=by
 refine yg Tryz.func130 k9 V k9 fun base w0=>(zk<|zp<|zd V<|zt (S:=[]) (zD [0,1] (zbg o) V ⟨(yG 0 V d9 ⟨(zo<|zb _),(VF 1 V d9),t9⟩),t9⟩ V)<|za V (yS V)<|ze<|zE V V<|zr<|zn<|zk<|zp<|zd V<|za V (ZC (e:=5) V k9)<|za V (Zq V V)<|ze<|zE V (by simp;omega)<|zr<|zn<|zi<|zd V<|zd V<|za V (zz V)<|za V (zc (n:=1) V k9)<|za V (zg 0 V V V k9 zh)<|zd V<|za V (ZC (e:=5) V k9)<|za V (ZU (r:=((b.length:Nat):Int)) .i64 V k9 k9 (by rw [zx];exact u64_w o9 o9)) (SWl.e2 (zC [1] (WG o t.A t.c t.F b.length o9 o9) V ⟨zb _,zb _,t9⟩ d9 ⟨lR V,t9⟩ (fun _ h=>h) V) fun sg=>(zd V (SWl.e4 (yN 1 1 1 V V (SrcT.b V) k9 k9 (by have:=Zv (n:=b.length) o9;simp only [Jk];omega) d9 (fun _ h=>h) V) fun A24 F24 c24=>(SWl.e2 (zC [0] (zdg gw (.slice t.A o.length t.c) (⟨A24,c24,F24⟩:Ust).A _ (⟨A24,c24,F24⟩:Ust).c (by have:=Zv (n:=b.length) o9;simp only [Jk];omega)) V ⟨zb _,zb _,t9⟩ d9 ⟨la V,t9⟩ (fun _ h=>h) V) fun _=>(zP ?_))))))
 refine Z1 (fn:=Tryz.f130) (⟨A24,c24,F24⟩) [1,0] (Rs.none V) d9 ⟨⟨_,V,⟨zb _,zF (by rw [j5,Jq]),t9⟩⟩,⟨⟨_,V,ZZ (by rw [j5,Jq]) (by rw [j5,Jq])⟩,t9⟩⟩
theorem zfp (gw:Nat) (t:Ust) (o:LB) (b:LB) (hb:o.length + b.length + 10≤65536):ConR Tryz.prog 166 [.c gw [iD 0,isD<|.slice t.A (o).length t.c],.r t.F<|yP 5 1 Yt t.A t.c<|o] [pA gw,yY b] (fun s:Ust=>[.c gw [iD 0,isD<|.slice s.A (o ++ j5 b).length s.c],.r s.F<|yP 5 1 Yt s.A s.c<|o ++ j5 b]) (fun s:Ust=>isD<|.tuple #[]):=by
 refine yg Tryz.func166 k9 V k9 fun base w0=>(zi<|zd V<|zd V (SWl.e2 (zC [0,1] (con_textS gw t o b hb) V ⟨zb _,zb _,t9⟩ d9 (sX V) (fun _ h=>h) V) fun s6=>(zP ?_)));refine Z1 (fn:=Tryz.f166) (s6) [0,1] (Rs.none V) d9 (sX V)
theorem K3 (gw:Nat) (t:Ust) (o:LB) (b:LB) (hb:o.length + b.length + 10≤65536):ConR Tryz.prog 74 [.c gw [iD 0,isD<|.slice t.A (o).length t.c],.r t.F<|yP 5 1 Yt t.A t.c<|o] [pA gw,bD b] (fun s:Ust=>[.c gw [iD 0,isD<|.slice s.A (o ++ j5 b).length s.c],.r s.F<|yP 5 1 Yt s.A s.c<|o ++ j5 b]) (fun s:Ust=>isD<|.tuple #[]):=by
 refine yg Tryz.func74 k9 V k9 fun base w0=>(zi<|zd V<|zd V (SWl.e2 (zC [0,1] (con_textB gw t o b hb) V ⟨zb _,zb _,t9⟩ d9 (sX V) (fun _ h=>h) V) fun s6=>(zP ?_)));refine Z1 (fn:=Tryz.f74) (s6) [0,1] (Rs.none V) d9 (sX V)
theorem zc7 (gw:Nat) (t:Ust) (o:LB) (ho:o.length≤65536):ConR Tryz.prog 125 [.c gw [iD 0,isD<|.slice t.A (o).length t.c],.r t.F<|yP 5 1 Yt t.A t.c<|o] [pA gw] (fun _:Unit=>[.c gw [iD 0,isD<|.slice t.A (o).length t.c],.r t.F<|yP 5 1 Yt t.A t.c<|o]) (fun _:Unit=>Yk [bD o,iD 0]):=by
 refine yg Tryz.func125 k9 V k9 fun base w0=>(zp<|zf V<|zf V<|ze<|zk<|zp<|zd V<|za V (YS V V k9)<|ze<|zE V V<|zr<|zn<|zk<|zp<|zd V<|za V (zz V)<|za V (zc (n:=0) V k9)<|za V (zc (n:=0) V k9)<|za V (zg 0 V V V k9 zh)<|za V (ye V V)<|ze<|zE V d9<|zr<|zn<|zk<|Yf 5 1 Yt<|zi<|zd V<|za V (zz V)<|za V (zc (n:=1) V k9)<|za V (zg 0 V V V k9 zh) (SWl.e4 (yN 2 1 1 V V (YE 1 V V) k9 k9 (by simp <;> omega) d9 (fun _ h=>h) V) fun A21 F21 c21=>(zf V ?_)))
 refine zf V (ze<|qk 2 2 V V (Yc _) ?_);refine zQ (fn:=Tryz.f125) (()) [0,1] (fun _ _ h=>h) (ym V (zj V)<|zj V) d9 (sX V)
end
section
def rdg:Nat→Bool→LB→Except Int (Nat × Nat)
 | 0,_,_=> .error 6
 | _ + 1,_,[]=> .error 4
 | j + 1,fst,c :: p=>if c.toNat < 128 then (if c.toNat=0∧fst=false then .error 6 else .ok (c.toNat,1)) else match rdg j false p with
  | .error e=> .error e
  | .ok (n,m)=> .ok (c.toNat - 128 + 128 * n,m + 1)
end
section
section
variable {P:Program}{Γ:Cx}{σ σ':St}{Q:Exit→Act→World→Prop}{a:Act}{w:World}{ops:Array Oper}{rest:List Oper}{S:List Nat}{dst:Option Tmp}{ty:TypeId}{pos:String}{af:Array Edge}{gd:Option (Nat × Bool)}
theorem qD {k:Nat} {op:Op} {d:D} (h:Rd P Γ [] ⟨some k,op,ty,pos,af,gd⟩ σ d) (hk:yE Γ.nt k=true):Ef P Γ S ⟨some k,op,ty,pos,af,gd⟩ σ (fun σ'=>σ'=σ.put k d):=by
 intro a w hh K Q hK;obtain ⟨v,h1,h2⟩:=h a w hh;have h3:=h2 w (Only.refl _ _);unfold Oper.wp;rw [h3];exact hK _ _ _ V (hh.put (by simpa [yE] using hk) h1) (Only.refl _ _)
end
end
section
section
variable {P:Program}{Γ:Cx}{σ:St}{S:List Nat}{dst:Option Tmp}{ty:TypeId}{pos:String}{af:Array Edge}{gd:Option (Nat × Bool)}{d d':D}
end
end
section
end
section
section
variable {P:Program}{Γ:Cx}{σ:St}{S:List Nat}{dst:Option Tmp}{ty:TypeId}{pos:String}{af:Array Edge}{gd:Option (Nat × Bool)}
