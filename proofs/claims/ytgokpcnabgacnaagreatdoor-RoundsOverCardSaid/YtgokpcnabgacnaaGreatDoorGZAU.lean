/- THE WALK of seal.Open. THE WALKS of the reference's Seal and Open. THE WALK of the reference's Open. Sealing and opening as contracts. ACCOUNTS: the l -/
import Derived.Test.YtgokpcnabgacnaaGreatDoorGZAT
set_option maxHeartbeats 8000000
set_option maxRecDepth 100000
namespace Go.Proofs.YtgokpcnabgacnaaGreatDoor
open Go.RowKit
theorem mask_at (w:World) (A B C:Option Addr) (ca cb n cc:Nat) (key nonce b:LB) (hn':n=b.length) (hk:key.length=32) (hn:nonce.length=16) (hb:(n:Int)≤65504) (hca:32≤ca) (hcb:16≤cb) (hcc:n≤cc) (hA:RV w A (cellsOf key)) (hB:RV w B (cellsOf nonce)) (hC:RV w C (cellsOf b)) (hgl:Gl w):
  Calls Tryz.prog 168 #[.slice A 32 ca,.slice B 16 cb,.slice C n cc] w fun e w'=>∃ g rest,e= .returned (.tuple #[.slice (some ⟨g,0,none⟩) n n,.int .i64 0])∧Blk w' g 5 (cellsOf (Sl.mask key nonce b) ++ rest)∧w.heap.size≤g∧Only [] w w':=by
 subst hn';exact zgh w A B C ca cb cc key nonce b hk hn hb hca hcb hcc hA hB hC hgl
def RetE (w:World) (bs:LB) (err:Nat) (e:Ending) (w':World):Prop:=
 ∃ A c,e= .returned (.tuple #[.slice A bs.length c,.int .i64 (err:Int)])∧bs.length≤c∧RV w' A (cellsOf bs)∧(∀ p,A=some p→w.heap.size≤p.block)∧Only [] w w'
theorem zg1 (w:World) (A B:Option Addr) (ca n cb:Nat) (h:(n:Int) < 32):
  Calls Tryz.prog 157 #[.slice A 32 ca,.slice B n cb] w (RetE w [] 4):=by
 go_enter Tryz.func157,Tryz.ntmps157
 go_wp2
 go_ret2
 exact ⟨none,0,V,by simp,RV.nil,(fun p hp=>by cases hp),Only.refl _ _⟩
theorem open_long (w:World) (A B:Option Addr) (ca n cb:Nat) (h:(65536:Int) < (n:Int)):
  Calls Tryz.prog 157 #[.slice A 32 ca,.slice B n cb] w (RetE w [] 5):=by
 have h':(32:Int)≤(n:Int):=by omega
 go_enter Tryz.func157,Tryz.ntmps157
 go_wp2
 go_ret2
 exact ⟨none,0,V,by simp,RV.nil,(fun p hp=>by cases hp),Only.refl _ _⟩
theorem or_zero (d x:UInt8):d ||| x=0↔d=0∧x=0:=by
 constructor
 ·intro h;have:=JY UInt8.toNat h;rw [UInt8.toNat_or] at this;have h1:d.toNat ||| x.toNat=0:=this;rw [Nat.or_eq_zero_iff] at h1;exact ⟨UInt8.toNat_inj.1 h1.1,UInt8.toNat_inj.1 h1.2⟩
 ·rintro ⟨rfl,rfl⟩
  rfl
theorem xor_zero (x y:UInt8):x ^^^ y=0↔x=y:=by
 constructor
 ·intro h
  have:x ^^^ y ^^^ y=0 ^^^ y:=by rw [h]
  rwa [UInt8.xor_assoc,UInt8.xor_self,UInt8.xor_zero,UInt8.zero_xor] at this
 ·rintro rfl;exact UInt8.xor_self
theorem zdH {a b:LB} {k:Nat} (ha:k < a.length) (hb:k < b.length):a.take (k + 1)=b.take (k + 1)↔a.take k=b.take k∧a.getD k 0=b.getD k 0:=by
 rw [J8 ha,J8 hb];simp only [Jr,Je ha,Je hb,Option.getD_some]
 constructor
 ·intro h;have:=List.append_inj h (by simp;omega);exact ⟨this.1,by simpa using this.2⟩
 ·rintro ⟨h1,h2⟩;rw [h1,h2]
theorem open_mid (w:World) (A B:Option Addr) (ca cb:Nat) (key b:LB) (n m:Nat) (hn:n=b.length) (hm:n=m + 16) (hk:key.length=32) (h1:(16:Int)≤(m:Int)) (h2:(m:Int)≤65520) (hca:32≤ca) (hcb:n≤cb) (hA:RV w A (cellsOf key)) (hB:RV w B (cellsOf b)) (hgl:Gl w) (bs:LB) (err:Nat) (Hbs:Hid (bs=if Sl.good key b then Sl.plainOf key b else [])) (Herr:Hid (err=if Sl.good key b then 0 else 10)):
    Calls Tryz.prog 157 #[.slice A 32 ca,.slice B n cb] w (RetE w bs err):=by
  have Hk:=Jm hk
  have e1:(n:Int) - 16=(m:Int):=by omega
  have e2:n - m=16:=by omega
  have hnI:(32:Int)≤(n:Int):=by omega
  have hnI2:(n:Int)≤65536:=by omega
  have hmn:m≤n:=by omega
  have Hm:Hid (b.length=m + 16):=by rw [← hn];exact hm
  have hncb:n≤cb:=hcb
  have hmcb:m + 16≤cb:=by omega
  clear hk hm hn
  obtain ⟨gb,ob,rfl,hgb,Zt⟩:=hB (by rw [zx,Hm.out];omega)
  have Hcells:=Jm Zt
  have hcbI:(n:Int)≤(cb:Int):=by omega
  have hmcI:(m:Int)≤(cb:Int):=by omega
  have hne:¬cb=m:=by omega
  have hne2:¬cb=16:=by omega
  clear Zt
  have hbody:RV w (some ⟨gb,ob,none⟩) (cellsOf<|Sl.bodyOf b):=by
    have h:=RV.slice rfl hB 0 m
    simpa [Sl.bodyOf,cellsOf,List.map_take,Hm.out] using h
  go_enter Tryz.func157,Tryz.ntmps157
  go_wp2_with (go_at_call 169;refine (zdI w A _ ca m cb key (Sl.bodyOf b) Hk.out ?hn hca o9 o9 hA hbody hgl).mono ?_
               case hn=>rw [Sl.bodyOf,JE,Hm.out];omega
               rintro e w1 ⟨g,rfl,hT,hg,hO1⟩)
  obtain ⟨T,hT'⟩:∃ T,T=Sl.tag key (Sl.bodyOf b):=⟨_,rfl⟩
  rw [← hT'] at hT
  have hTl:T.length=16:=by rw [hT'];simp
  have HT:=Jm hT'
  have HTl:=Jm hTl
  obtain ⟨g',o',e1,hgT,hcT⟩:=hT (by rw [zx,hTl];decide)
  injection e1 with e1
  injection e1 with e1 e2
  subst e1 e2
  have HcT:=Jm hcT
  obtain ⟨U,hU⟩:∃ U,U=Sl.tagIn b:=⟨_,rfl⟩
  have hUl:U.length=16:=by rw [hU,Sl.tagIn,JA,Hm.out];omega
  have HU:=Jm hU
  have HUl:=Jm hUl
  clear hT' hTl hcT hU hUl hT
  go_loop [43,9,10,11] (fun c d _ _=>∃ (k:Nat) (dv:UInt8),k≤16∧c= .int .i64 (k:Int)∧d= .int .u8 (dv.toNat:Int)∧(dv=0↔U.take k=T.take k)) (fun c _ _ _=>16 - (intOf c).toNat)
  case atStart=>exact ⟨0,0,by omega,rfl,rfl,by simp⟩
  case round=>
    obtain ⟨k,dv,hk16,rfl,rfl,hdv⟩:=hrel
    have Hdv:=Jm hdv
    clear hdv
    by_cases hlt:k < 16
    · have hltI:(k:Int) < 16:=by omega
      have c1:w1.cell? ⟨gb,ob + m + k,none⟩=some (.int .u8 ((U.getD k 0).toNat:Int)):=by
        rw [J9,hO1.cell (p:=⟨gb,ob + (m + k),none⟩) hgb s9,Hcells.out (m + k) (by rw [zx,Hm.out];omega),Yl (by rw [Hm.out];omega),HU.out]
        simp [Sl.tagIn,List.getD,Hm.out]
      have c2:w1.cell? ⟨g,k,none⟩=some (.int .u8 ((T.getD k 0).toNat:Int)):=by
        have:=HcT.out k (by rw [zx,HTl.out];exact hlt)
        rw [JF] at this
        rw [this]
        exact Yl (by rw [HTl.out];exact hlt)
      have hnext:=zdH (a:=U) (b:=T) (k:=k) (by rw [HUl.out];exact hlt) (by rw [HTl.out];exact hlt)
      have Hnext:=Jm hnext
      clear hnext
      revert c1 c2 Hnext
      generalize U.getD k 0=x
      generalize T.getD k 0=y
      intro c1 c2 Hnext
      obtain ⟨z,Hz⟩:∃ z:Nat,Hid (z=(x ^^^ y).toNat):=⟨_,rfl⟩
      obtain ⟨z2,Hz2⟩:∃ z:Nat,Hid (z=(dv ||| (x ^^^ y)).toNat):=⟨_,rfl⟩
      have hx:=Ws x y
      have ho:=u8_or_val dv (x ^^^ y)
      rw [← Hz.out] at hx ho
      rw [← Hz2.out] at ho
      go_wp2
      go_round
      case rel=>
        refine ⟨k + 1,dv ||| (x ^^^ y),by omega,by go_num,by rw [Hz2.out],?_⟩
        rw [or_zero,xor_zero,Hnext.out,Hdv.out]
      case measure=>simp [intOf];omega
    · obtain rfl:k=16:=by omega
      have hgood:Sl.good key b=decide (dv=0):=by
        unfold Sl.good
        rw [← HT.out,← HU.out,XH,JT,decide_eq_true_iff,Hdv.out,Ji (by rw [HUl.out];exact Js _),Ji (by rw [HTl.out];exact Js _)]
        exact ⟨fun h=>h.symm,fun h=>h.symm⟩
      by_cases hd:dv=0
      · subst hd
        rw [Jo rfl] at hgood
        have hbs:bs=Sl.plainOf key b:=by rw [Hbs.out,hgood,Jh rfl]
        have her:err=0:=by rw [Herr.out,hgood,Jh rfl]
        have Hbs2:=Jm hbs
        have Her2:=Jm her
        clear hgood hbs her
        have d0:((0:UInt8).toNat:Int)=0:=rfl
        rw [d0]
        have h16:(16:Int)≤(m:Int):=h1
        have hm16:¬cb=16:=by omega
        have h16n:16≤m:=by omega
        go_wp2
        refine Reg.wp [] [.r 0,.r 1,.r 2,.r 3,.r 4,.e 5,.r 6,.r 7,.r 8,.r 9] k9 k9 (fun d _ _ _ _ h=>by cases d <;> exact h) ?_
        simp only [Reg.pick,List.getD_cons_succ,List.getD_cons_zero]
        iterate 5 (apply Reg.read;(· (intro t K hK;go_simp;(try go_ints);(try ((go_ite <;> go_prune);go_simp));(try go_ints);exact hK _ rfl));(· (intro K hK;go_simp;exact hK _ rfl)))
        refine Reg.eff ?_
        have hb1:RV w1 (some ⟨gb,ob,none⟩) (cellsOf<|(Sl.bodyOf b).take 16):=by
          have h:=RV.slice rfl (hbody.keep0 hO1) 0 16
          simpa [cellsOf,List.map_take] using h
        have hbl:(Sl.bodyOf b).length=m:=by rw [Sl.bodyOf,JE,Hm.out];omega
        have hb2:RV w1 (some ⟨gb,ob + 16,none⟩) (cellsOf<|(Sl.bodyOf b).drop 16):=by
          have h:=RV.slice rfl (hbody.keep0 hO1) 16 (m - 16)
          have e:((cellsOf<|Sl.bodyOf b).drop 16).take (m - 16)=cellsOf ((Sl.bodyOf b).drop 16):=by
            rw [Ji (by rw [JA,zx,hbl];exact Js _),cellsOf,cellsOf,List.map_drop]
          rw [e] at h
          exact h
        have Hbl:=Jm hbl
        clear hbl
        go_wp2_with (go_at_call 168;refine (mask_at w1.drew A _ _ ca cb (m - 16) _ key ((Sl.bodyOf b).take 16) ((Sl.bodyOf b).drop 16) ?hn3 Hk.out ?hn4 ?hb3 hca o9 o9 (hA.keep0 hO1).drew hb1.drew hb2.drew (hgl.keep hO1 s9 s9).drew).mono ?_
                     case hn3=>rw [JA,Hbl.out]
                     case hn4=>rw [JE,Hbl.out];omega
                     case hb3=>omega
                     rintro e w2 ⟨g2,r2,rfl,hB2,hg2,hO2⟩)
        refine ⟨hO2,?_⟩
        iterate 4 (apply Reg.read;(· (intro t K hK;go_simp;(try go_ints);(try ((go_ite <;> go_prune);go_simp));(try go_ints);exact hK _ rfl));(· (intro K hK;go_simp;exact hK _ rfl)))
        refine Reg.fin ?_
        go_wp2
        go_ret2
        rw [Hbs2.out,Her2.out]
        have hpl:(Sl.plainOf key b).length=m - 16:=by rw [Sl.plainOf,Sl.mask_length,JA,Hbl.out]
        refine ⟨some ⟨g2,0,none⟩,m - 16,by rw [hpl];rfl,by rw [hpl];exact Js _,?_,(fun p hp=>by injection hp with hp;subst hp;exact JG hO1.size hg2),hO1.trans'<|Only.undrew (w:=w1) hO2⟩
        intro _
        unfold Sl.plainOf
        exact ⟨g2,0,V,hB2.lt,fun j hj=>by rw [JF,hB2.cell,JB hj]⟩
      · rw [Jd hd] at hgood
        have hbs:bs=[]:=by rw [Hbs.out,hgood,Jb d9]
        have her:err=10:=by rw [Herr.out,hgood,Jb d9]
        have Hbs2:=Jm hbs
        have Her2:=Jm her
        clear hbs her
        have hd0:dv.toNat≠0:=fun h=>hd (UInt8.toNat_inj.1 h)
        have d1:((dv.toNat:Int) == 0)=false:=Xb.2 o9
        have d2:((dv.toNat:Int) != 0)=true:=by rw [bne_iff_ne];omega
        clear hgood
        go_wp2
        go_ret2
        rw [Hbs2.out,Her2.out]
        exact ⟨none,0,V,by simp,RV.nil,(fun p hp=>by cases hp),hO1⟩
theorem open_any (w:World) (A B:Option Addr) (ca n cb:Nat) (key b:LB) (hn:n=b.length) (hk:key.length=32) (hca:32≤ca) (hcb:n≤cb) (hA:RV w A (cellsOf key)) (hB:RV w B (cellsOf b)) (hgl:Gl w):
  Calls Tryz.prog 157 #[.slice A 32 ca,.slice B n cb] w (RetE w (Sl.openB key b).1 (Sl.openB key b).2):=by
 by_cases h1:n < 32
 ·have e:Sl.openB key b=([],4):=by unfold Sl.openB;rw [Jh o9]
  rw [e];exact zg1 w A B ca n cb o9
 ·by_cases h2:65536 < n
  ·have e:Sl.openB key b=([],5):=by unfold Sl.openB;rw [Jb o9,Jh o9]
   rw [e];exact open_long w A B ca n cb o9
  ·have e:Sl.openB key b=if Sl.good key b then (Sl.plainOf key b,0) else ([],10):=by unfold Sl.openB;rw [Jb o9,Jb o9]
   refine open_mid w A B ca cb key b n (n - 16) hn o9 hk o9 o9 hca hcb hA hB hgl _ _ ?_ ?_
   ·show _=_;rw [e]
    split <;> rfl
   ·show _=_;rw [e]
    split <;> rfl
namespace Sx
section
theorem bD_new {L:LN} {w w':World} {A:Option Addr} {n c:Nat} {b:LB} (hn:n=b.length) (hc:n≤c) (hr:RV w' A (cellsOf b)) (hL:∀ x∈L,x < w.heap.size) (ha:∀ p,A=some p→w.heap.size≤p.block):(bD b).R L w' (.slice A n c):=by
 subst hn;refine ⟨A,c,by rw [zx],by rw [zx];exact hc,hr,fun _ p hp hm=> ?_⟩;have h1:=ha p hp;have h2:=hL _ hm;omega
theorem own_new {L:LN} {w w':World} {e:TypeId} {A:Option Addr} {n c:Nat} {b:LB} {G:Option Nat} (hn:n=b.length) (hO:OwnS w' e A c (cellsOf b) G) (hN:New w G) (hL:∀ x∈L,x < w.heap.size):(bD b).R L w' (.slice A n c):=by
 refine bD_new hn (by rw [hn];simpa using hO.le) hO.reads hL fun p hp=> ?_;rcases hO with ⟨h,_⟩ | ⟨g,r,h1,h2,_⟩
 ·rw [h] at hp;cases hp
 ·rw [h1] at hp;injection hp with hp;subst hp;exact hN g h2
theorem sz_str (b:LB):(⟨b.toArray⟩:ByteArray).size=b.length:=by show b.toArray.size=_;simp
theorem zhq (key label:LB) (hk:key.length=32) (h1:1≤label.length) (h2:label.length≤64):Con Tryz.prog 167 [bD key,yY label] (Yk [bD<|Bl.hash key label,iD 0]):=by
 refine ⟨enters_of Tryz.func167 k9 V,fun L w vs hL hG ha=> ?_⟩;obtain ⟨u,v,rfl,hu,rfl⟩:=zdB ha;obtain ⟨A,c,rfl,hc,hr⟩:=KN hu;rw [hk] at hc ⊢;refine (Wz w A c key ⟨label.toArray⟩ label hk V (by rw [sz_str];omega) (by rw [sz_str];omega) hc hr hG).mono ?_;rintro r w' ⟨g,rfl,hB,hg,ho⟩;exact ⟨_,V,⟨_,V,bD_new s9 (Js _) hB.rv hL (fun p hp=>by injection hp with hp;subst hp;exact hg),V,t9⟩,ho⟩
theorem zee (key nonce b:LB) (hk:key.length=32) (hn:nonce.length=16) (hb:b.length≤65504):Con Tryz.prog 133 [bD key,bD nonce,bD b] (Yk [bD<|Sl.sealB key nonce b,iD 0]):=by
 refine ⟨enters_of Tryz.func133 k9 V,fun L w vs hL hG ha=> ?_⟩;obtain ⟨u,v,x,rfl,hu,hv,hx⟩:=all3 ha;obtain ⟨A,c,rfl,hc,hr⟩:=KN hu;obtain ⟨B,d,rfl,hd,hs⟩:=KN hv;obtain ⟨C,f,rfl,hf,ht⟩:=KN hx;have hl:=Sl.sealB_length key nonce b hn;rw [hk] at hc ⊢;rw [hn] at hd ⊢;refine (sealB_any w A B C c d f key nonce b hk hn o9 hc hd hf hr hs ht hG).mono ?_;rintro r w' ⟨A',c',G,rfl,hO,hN,ho⟩;exact ⟨_,V,⟨_,V,own_new hl.symm hO hN hL,V,t9⟩,ho⟩
theorem con_openB (key b:LB) (hk:key.length=32):Con Tryz.prog 157 [bD key,bD b] (Yk [bD (Sl.openB key b).1,iD ((Sl.openB key b).2:Int)]):=by
 refine ⟨enters_of Tryz.func157 k9 V,fun L w vs hL hG ha=> ?_⟩;obtain ⟨u,v,rfl,hu,hv⟩:=zdB ha;obtain ⟨A,c,rfl,hc,hr⟩:=KN hu;obtain ⟨B,d,rfl,hd,hs⟩:=KN hv;rw [hk] at hc ⊢;refine (open_any w A B c b.length d key b V hk hc hd hr hs hG).mono ?_;rintro r w' ⟨A',c',rfl,h1,h2,h3,ho⟩;exact ⟨_,V,⟨_,V,bD_new V h1 h2 hL h3,V,t9⟩,ho⟩
end
section
end
section
theorem le_rb0:LeAll [isD<|.slice none 0 0] [lsD Yz []]:=⟨Yb,trivial⟩
theorem WI {gb:Nat} {s:Bst} {l l':List Acc.T} {a:Acc.T} {e:Int} {A:Option Addr} {c:Nat} {F:LN} {R:Res} (hR:qb R (.slice A a.key.length c) (cellsOf a.key)) (hf:Acc.Fine l) (h:Acc.add l a=(l',e)):
  ConR Tryz.prog 49 [zhF gb s l,zhE s l,zhG s l,zhD s l,.r F R] [pA gb,Zo [yY a.name,iD a.role,isD<|.slice A a.key.length c,iD a.dep,iD a.num]]
   (fun t:Bst=>[zhF gb t l',zhE t l',zhG t l',zhD t l',.r F R]) (fun _=>iD e):=by
 have hc:=con_add gb s l a A c F R hR hf;rw [h] at hc;exact hc
end
section
def qu (l:List Int):Int:=(l.find? fun x=>decide (x≠0)).getD 0
theorem za3 {l:List Int}:qu (0 :: l)=qu l:=by simp [qu]
theorem za4 {x:Int} {l:List Int} (h:x≠0):qu (x :: l)=x:=by simp [qu,h]
theorem firstE_at {l:List Int} {i:Nat} {x:Int} (h:∀ y∈l.take i,y=0) (hx:l[i]? =some x) (h0:x≠0):qu l=x:=by
 have hd:l=l.take i ++ x :: l.drop (i + 1):=by
  rw [← (Jg.1 hx).2,← List.drop_eq_getElem_cons (Jg.1 hx).1,JV]
 unfold qu
 rw [hd,List.find?_append,List.find?_eq_none.2 (fun y hy=>by simp [h y hy])];simp [h0]
theorem zg8 {l:List Int} (h:∀ y∈l,y=0):qu l=0:=by
 unfold qu
 rw [List.find?_eq_none.2 (fun y hy=>by simp [h y hy])]
 rfl
abbrev unE (ok:Bool) (e:Int):Int:=bif ok then 0 else e
theorem blsI2 (a b:Int):Bls Tryz.prog 244 2 [0,1] [iD a,iD b] ([a,b].flatMap encI):=⟨35,fun L w vs hv=>by
 obtain ⟨u,v,rfl,rfl,rfl⟩:=zdB hv
 exact ⟨[.int .i64 a,.int .i64 b],⟨V,V,t9⟩,fun w'=>by kernel_rfl⟩⟩
theorem blsI3 (a b c:Int):Bls Tryz.prog 244 3 [0,1,2] [iD a,iD b,iD c] ([a,b,c].flatMap encI):=⟨35,fun L w vs hv=>by
 obtain ⟨u,v,z,rfl,rfl,rfl,rfl⟩:=all3 hv
 exact ⟨[.int .i64 a,.int .i64 b,.int .i64 c],⟨V,V,V,t9⟩,fun w'=>by kernel_rfl⟩⟩
theorem all6 {L:LN} {w:World} {a b c d e f:D} {vs:List Value} (h:All L w [a,b,c,d,e,f] vs):∃ u v z x y t,vs=[u,v,z,x,y,t]∧a.R L w u∧b.R L w v∧c.R L w z∧d.R L w x∧e.R L w y∧f.R L w t:=by
 match vs,h with
 | [u,v,z,x,y,t],⟨h1,h2,h3,h4,h5,h6,_⟩=>exact ⟨u,v,z,x,y,t,rfl,h1,h2,h3,h4,h5,h6⟩
theorem blsI6 (a b c d e f:Int):Bls Tryz.prog 244 6 [0,1,2,3,4,5] [iD a,iD b,iD c,iD d,iD e,iD f] ([a,b,c,d,e,f].flatMap encI):=⟨35,fun L w vs hv=>by
 obtain ⟨u,v,z,x,y,t,rfl,rfl,rfl,rfl,rfl,rfl,rfl⟩:=all6 hv
 exact ⟨[.int .i64 a,.int .i64 b,.int .i64 c,.int .i64 d,.int .i64 e,.int .i64 f],⟨V,V,V,V,V,V,t9⟩,fun w'=>by kernel_rfl⟩⟩
theorem bldA3s {n:LB} {r:Int} {A:Option Addr} {k c:Nat}:Bld Tryz.prog 121 [0,1,2] [yY n,iD r,isD<|.slice A k c] [yY n,iD r,isD<|.slice A k c,iD 0,iD 0]:=fun L w vs hv=>by
 obtain ⟨u,v,z,rfl,rfl,rfl,rfl⟩:=all3 hv;exact ⟨[.string _,.int .i64 r,.slice A k c,.int .i64 0,.int .i64 0],⟨V,V,V,V,V,t9⟩,fun w'=>by kernel_rfl⟩
theorem bldEn0:Bld Tryz.prog 58 [] [] [yY [],iD 0,iD 0,isD<|.slice none 0 0,isD<|.slice none 0 0]:=fun L w vs h=>by
 obtain rfl:=all0 h;exact ⟨[.string ⟨#[]⟩,.int .i64 0,.int .i64 0,.slice none 0 0,.slice none 0 0],⟨V,V,V,V,V,t9⟩,fun w'=>by kernel_rfl⟩
theorem bldEn4 {n:LB} {r s:Int} {b:LB}:Bld Tryz.prog 58 [0,1,2,3] [yY n,iD r,iD s,bD b] [yY n,iD r,iD s,bD b,isD<|.slice none 0 0]:=fun L w vs hv=>by
 match vs,hv with
 | [x,y,z,u],⟨hx,hy,hz,h3,_⟩=>
  cases hx;cases hy;cases hz
  have h3':=h3;obtain ⟨A,cp,rfl,-⟩:=h3;exact ⟨[.string _,.int .i64 r,.int .i64 s,.slice A _ cp,.slice none 0 0],⟨V,V,V,h3',V,t9⟩,fun w'=>by kernel_rfl⟩
theorem Env.eq_iff {a b:Env.T}:a=b↔a.acc=b.acc∧a.rnd=b.rnd∧a.ser=b.ser∧a.box=b.box∧a.tag=b.tag:=by
 constructor
 ·rintro rfl;exact ⟨rfl,rfl,rfl,rfl,rfl⟩
 ·obtain ⟨_,_,_,_,_⟩:=a;obtain ⟨_,_,_,_,_⟩:=b;rintro ⟨h1,h2,h3,h4,h5⟩;simp only at *;subst h1 h2 h3 h4 h5;rfl
instance:DecidableEq Env.T:=fun a b=>decidable_of_iff _ Env.eq_iff.symm
theorem Y1 (x lo hi:Int):ConN Tryz.prog 120 [iD x,iD lo,iD hi] (yj<|decide (lo≤x∧x≤hi)):=by
 refine yO Tryz.func120 k9 V k9 fun base w0=>(zp<|zf V<|zV<|zd V<|zd V<|za V (YR V V)<|zd V<|zU 10 V (fun hb10=> ?_) (fun hb10=> ?_))
 ·have h10:=oT hb10;refine zy hb10 (zI V) (zy hb10 (zI V)<|zy hb10 (YR V V)<|za V (zB V hb10 V)<|zf V<|ze<|zK (fn:=Tryz.f120) (fun _ _ h=>h)<|Rs.le (Rs.one V<|zj V) ?_);exact zZ (by rw [JW];exact ⟨fun h=>⟨h10,h⟩,fun h=>h.2⟩)
 ·have h10:=oF hb10;refine zq hb10 (zq hb10<|zq hb10<|za V (zv V hb10 V)<|zf V<|ze<|zK (fn:=Tryz.f120) (fun _ _ h=>h)<|Rs.le (Rs.one V<|zj V) ?_);exact zZ (by symm;apply Jd;intro h;exact h10 h.1)
theorem KJ (l:List Int) (hl:l.length≤100):ConN Tryz.prog 121 [lsD encI l] (iD<|qu l):=by
 refine yO Tryz.func121 k9 V k9 fun base w0=>(zp<|zf V<|ze<|zk<|zp<|zd V<|za V (yx (e:=35) V k9)<|zd V<|ze<|zX<|Zw (ι:={i:Nat // i≤l.length∧∀ y∈l.take i,y=0}) (fun i=>zN [(5,lsD encI l),(6,iD (l.length:Int)),(7,iD (i.1:Int))] []) (fun i=>l.length - i.1) (⟨0,by simp⟩) ?_ ?_)
 ·exact (sB [] V V)
 ·rintro ⟨i,hi,ha⟩ K0 hK0;dsimp only at hi ha ⊢;refine zp (za V (yF V V)<|ze<|zk<|zJ V (fun hb8=> ?_) (fun hb8=> ?_))
  ·have hb8:=oT hb8;refine zr (zn<|zk<|zX<|zk ?_);obtain ⟨x,hx⟩:∃ x,l[i]? =some x:=⟨_,Je o9⟩;refine zi (za V (yp (e:=35) 1 V V k9 k9 o9 (by simpa using hx))<|za V (ya V V k9 s9)<|zf V<|zV<|zd V<|za V (ye V V)<|ze<|zJ V (fun hb12=> ?_) (fun hb12=> ?_))
   ·skip
    refine zp (zd V<|zf V<|ze<|zK (fn:=Tryz.f121) (fun _ _ h=>h)<|Rs.le (Rs.one V<|zj V) ?_)
    exact Le.trans (zF (by rw [firstE_at ha hx (by simpa using hb12)])) zu
   ·skip
    exact zr (yc<|zn<|zi<|za V (yC V V ⟨by omega,by omega⟩)<|zd V<|zP (fun a w hh=>hK0 (⟨i + 1,by omega,fun y hy=>by rw [yr hx] at hy;rcases List.mem_append.1 hy with hy | hy;exact ha y hy;rw [List.mem_singleton.1 hy];simpa using hb12⟩) (by dsimp only;omega) a w<|hh.sub<|⟨⟨_,V,⟨lq V,⟨lq V,⟨⟨_,V,zF s9⟩,t9⟩⟩⟩⟩,[],by decide,trivial⟩))
  ·have hb8:=oF hb8;refine yZ ?_
   repeat (first | refine Ze ?_ | refine Zf d9 ?_)
   refine Zn (zn<|zp<|zf V<|ze<|zK (fn:=Tryz.f121) (fun _ _ h=>h)<|Rs.le (Rs.one V<|zj V) ?_)
   exact Le.trans (zF (by rw [zg8 (fun y hy=>ha y (by rw [Ji o9];exact hy))])) zu
theorem Zm (ok:Bool) (e:Int):ConN Tryz.prog 122 [yj ok,iD e] (iD<|unE ok e):=by
 refine yO Tryz.func122 k9 V k9 fun base w0=>(zp<|zf V<|ze<|zk<|zp<|zd V<|ze<|zJ V (fun hb5=> ?_) (fun hb5=> ?_))
 ·subst hb5;refine zp (zf V<|ze<|zK (fn:=Tryz.f122) (fun _ _ h=>h)<|Rs.le (Rs.one V<|zj V) ?_);exact zu
 ·subst hb5;refine zr (zn<|zp<|zd V<|zf V<|ze<|zK (fn:=Tryz.f122) (fun _ _ h=>h)<|Rs.le (Rs.one V<|zj V) ?_);exact zu
theorem zhn (nm:LB):ConN Tryz.prog 119 [yY nm] (yj<|decide (Acc.isName nm)):=by
 refine yO Tryz.func119 k9 V k9 fun base w0=>(zp<|zf V<|zV<|zd V (SWl.e2 (S:=[]) (Ef.make (e:=5) (z:= .int .u8 0) (n:=32) 1 V V k9 k9 V V V d9 d9 V) fun g4=>(za V (yq V V<|bldA3s (n:=nm) (r:=3))<|zt (S:=[]) (zD [] (q8 nm 3 32 0 0) V ⟨(zo<|ZM ⟨zb _,zb _,qs,zb _,zb _,t9⟩),t9⟩ V)<|zf V<|ze<|zK (fn:=Tryz.f119) (fun _ _ h=>h)<|Rs.le (Rs.one V<|zj V) ?_)));exact zZ (by rw [JW];unfold Acc.okN;exact ⟨fun h=>h.1,fun h=>⟨h,rfl,by decide,by decide,by decide,by decide⟩⟩)
theorem qZ (nm:LB) (rnd ser:Int) (bl tl:Nat):ConN Tryz.prog 66 [Zo [yY nm,iD rnd,iD ser,zfi bl,zfi tl]] (yj<|decide (Env.okV nm rnd ser bl tl)):=by
 refine yO Tryz.func66 k9 V k9 fun base w0=>(zp (SWl.e2 (S:=[]) (yv V V) fun g1=>(zf V<|zV<|za V (zc (n:=0) V k9)<|za V (zg 0 V V V k9 zh)<|zt (S:=[]) (zD [] (zhn nm) V ⟨(zo<|zb _),t9⟩ V)<|zd V<|zU 6 V (fun hb6=> ?_) (fun hb6=> ?_))))
 ·have h6:=oT hb6;refine zy hb6 (zc (n:=1) V k9) (zy hb6 (zg 0 V V V k9 zh)<|ZD (S:=[]) V V hb6 V (zD [] (Y1 rnd 0 1048576) V ⟨(zo<|zb _),(zo<|zb _),(zo<|zb _),t9⟩ V) ?_);rintro _ rfl;refine za V (zB V hb6 V) (zd V<|zU 11 V (fun hb11=> ?_) (fun hb11=> ?_))
  ·have h11:=oT hb11;refine zy hb11 (zc (n:=2) V k9) (zy hb11 (zg 0 V V V k9 zh)<|ZD (S:=[]) V V hb11 V (zD [] (Y1 ser 0 1073741824) V ⟨(zo<|zb _),(zo<|zb _),(zo<|zb _),t9⟩ V) ?_);rintro _ rfl;refine za V (zB V hb11 V) (zd V<|zU 16 V (fun hb16=> ?_) (fun hb16=> ?_))
   ·have h16:=oT hb16;refine zy hb16 (zc (n:=3) V k9) (zy hb16 (zg 0 V V V k9 zh)<|zy hb16 (Ks (e:=5) V k9)<|ZD (S:=[]) V V hb16 V (zD [] (Y1 (bl:Int) 32 4128) V ⟨(zo<|zb _),(zo<|zb _),(zo<|zb _),t9⟩ V) ?_);rintro _ rfl;refine za V (zB V hb16 V) (zd V<|zU 22 V (fun hb22=> ?_) (fun hb22=> ?_))
    ·have h22:=oT hb22;refine zy hb22 (zc (n:=4) V k9) (zy hb22 (zg 0 V V V k9 zh)<|zy hb22 (Ks (e:=5) V k9)<|zy hb22 (yM V V)<|za V (zB V hb22 V)<|zf V<|ze<|zK (fn:=Tryz.f66) (fun _ _ h=>h)<|Rs.le (Rs.one V<|zj V) ?_);exact zZ (by rw [JW];exact ⟨fun h=>⟨h6,h11,h16,⟨by omega,by omega⟩,by omega⟩,fun h=>by have:=h.2.2.2.2;omega⟩)
    ·have h22:=oF hb22;refine zq hb22 (zq hb22<|zq hb22<|zq hb22<|za V (zv V hb22 V)<|zf V<|ze<|zK (fn:=Tryz.f66) (fun _ _ h=>h)<|Rs.le (Rs.one V<|zj V) ?_);exact zZ (by symm;apply Jd;intro h;exact h22 ⟨by have:=h.2.2.2.1;omega,by have:=h.2.2.2.1;omega⟩)
   ·have h16:=oF hb16;refine zq hb16 (zq hb16<|zq hb16<|zq hb16<|za V (zv V hb16 V)<|zd V<|zq V<|zq V<|zq V<|zq V<|za V (zv V V V)<|zf V<|ze<|zK (fn:=Tryz.f66) (fun _ _ h=>h)<|Rs.le (Rs.one V<|zj V) ?_);exact zZ (by symm;apply Jd;intro h;exact h16 h.2.2.1)
  ·have h11:=oF hb11;refine zq hb11 (zq hb11<|zq hb11<|za V (zv V hb11 V)<|zd V<|zq V<|zq V<|zq V<|zq V<|za V (zv V V V)<|zd V<|zq V<|zq V<|zq V<|zq V<|za V (zv V V V)<|zf V<|ze<|zK (fn:=Tryz.f66) (fun _ _ h=>h)<|Rs.le (Rs.one V<|zj V) ?_);exact zZ (by symm;apply Jd;intro h;exact h11 h.2.1)
 ·have h6:=oF hb6;refine zq hb6 (zq hb6<|zq hb6<|za V (zv V hb6 V)<|zd V<|zq V<|zq V<|zq V<|za V (zv V V V)<|zd V<|zq V<|zq V<|zq V<|zq V<|za V (zv V V V)<|zd V<|zq V<|zq V<|zq V<|zq V<|za V (zv V V V)<|zf V<|ze<|zK (fn:=Tryz.f66) (fun _ _ h=>h)<|Rs.le (Rs.one V<|zj V) ?_);exact zZ (by symm;apply Jd;intro h;exact h6 h.1)
theorem zhs (key:LB) (hk:key.length≤1000000):Con Tryz.prog 101 [bD key] (Yk [bD<|Env.comB key,iD<|Env.comE key]):=by
 refine YP Tryz.func101 k9 V k9 fun base w0=>(zp<|zf V<|zf V<|ze<|zk<|zp<|zd V<|za V (ZC (e:=5) V k9)<|za V (ye V V)<|ze<|zJ V (fun hb7=> ?_) (fun hb7=> ?_))
 ·have h7:¬key.length=32:=by (simp at hb7;omega)
  refine zp (zf V<|zf V<|ze<|zK (fn:=Tryz.f101) (fun _ _ h=>h)<|Rs.le (ym V (zj V)<|zj V) ?_);exact yn ⟨by rw [Env.comB,Jb h7];exact Zz,zF (by rw [Env.comE,Jb h7]),trivial⟩
 ·have h7:key.length=32:=by (simp at hb7;omega)
  refine zr (zn<|zp (SWl.e2 (S:=[]) (zdv (e:=5) (b:=[114,111,117,110,100,45]) V V V d9 (fun w=>by kernel_rfl) V) fun g8=>(zt (Ef.markK (e:=5) 0 V V k9 k9 d9 V (fun _ h=>h) V)<|zd V<|YJ (S:=[]) (Ef.appK (e:=5) V V d9 o9 k9 k9 (by simp <;> omega) V) ?_)))
  rintro _ ⟨g11,c11,rfl⟩
  refine Ki 0 11 V V (Yc _) (zt (S:=[]) (zY (zfr _ (by simp;omega)) V ⟨zb _,t9⟩ V) (SWl.e2 (S:=[]) (zM (zs:=cellsOf<|List.replicate 32 0) k9 V) fun g4=>(zt (S:=[_]) (Yo 0 32 V V V k9 (by first | assumption | (simp;done) | (simp;omega)) (by first | assumption | (simp;done) | (simp;omega))<|m9 V)<|zV<|za V (Ko (e:=5) (n:=32) V k9 k9)<|WN 13 0 (cellsOf<|Env.comH key) V V (by first | rfl | (simp;done)) d9 V<|zf V<|zf V<|ze<|zK (fn:=Tryz.f101) (fun _ _ h=>h)<|Rs.le (ym V (zj V)<|zj V) ?_)))
  exact yn ⟨by rw [Env.comB,Jh h7];exact zb _,zF (by rw [Env.comE,Jh h7]),trivial⟩
theorem zcs (gw:Nat) (t:Ust) (o:LB) (e:Env.T) (h1:e.acc.length≤1000) (h2:0≤e.rnd∧e.rnd≤1048576) (h3:0≤e.ser∧e.ser≤1073741824) (h4:e.box.length≤10000) (ho:o.length≤10000):ConR Tryz.prog 124 [.c gw [iD 0,isD<|.slice t.A (o).length t.c],.r t.F<|yP 5 1 Yt t.A t.c<|o] [pA gw,Zo [yY e.acc,iD e.rnd,iD e.ser,bD e.box,bD e.tag]] (fun s:Ust=>[.c gw [iD 0,isD<|.slice s.A (o ++ Env.sgnT e).length s.c],.r s.F<|yP 5 1 Yt s.A s.c<|o ++ Env.sgnT e]) (fun s:Ust=>isD<|.tuple #[]):=by
 have a1:=ZN (b:=e.acc) o9;have a2:=ZN (b:=e.box) o9;have a3:=Zv (n:=e.rnd.toNat) o9;have a4:=Zv (n:=e.ser.toNat) o9
 refine yg Tryz.func124 k9 V k9 fun base w0=>(zp (SWl.e2 (S:=[]) (yv V V) fun g3=>(zV<|zd V<|za V (KT [.pointer<|some ⟨gw,0,none⟩] V)<|zd V<|za V (KT [.pointer<|some ⟨gw,0,none⟩] V)<|zd V<|za V (KT [.pointer<|some ⟨gw,0,none⟩] V)<|zf V<|zf V<|zf V<|zV<|zd V<|za V (zc (n:=0) V k9)<|za V (zg 2 V V V k9 zh) (SWl.e2 (Wm (bd:=[.pointer<|some ⟨gw,0,none⟩]) [0,1] (zfp gw t (o) e.acc (by first | omega | (simp only [Jk] at *;omega))) V V ⟨zb _,zb _,t9⟩ d9 (sX V) (fun _ h=>h) V) fun s16=>(zV<|zd V<|za V (zc (n:=1) V k9)<|za V (zg 0 V V V k9 zh) (SWl.e2 (Wm (bd:=[.pointer<|some ⟨gw,0,none⟩]) [1,2] (KF gw s16 (o ++ j5 e.acc) e.rnd.toNat o9 (by first | omega | (simp only [Jk] at *;omega))) V V ⟨zb _,zF (by rw [Int.toNat_of_nonneg h2.1]),t9⟩ d9 (sX V) (fun _ h=>h) V) fun s20=>(zV<|zd V<|za V (zc (n:=2) V k9)<|za V (zg 0 V V V k9 zh) ?_)))))))
 refine SWl.e2 (Wm (bd:=[.pointer<|some ⟨gw,0,none⟩]) [1,2] (KF gw s20 (o ++ j5 e.acc ++ grp e.rnd.toNat) e.ser.toNat o9 (by first | omega | (simp only [Jk] at *;omega))) V V ⟨zb _,zF (by rw [Int.toNat_of_nonneg h3.1]),t9⟩ d9 (sX V) (fun _ h=>h) V) fun s24=>(ze<|zi<|zd V<|za V (zc (n:=3) V k9)<|za V (zg 0 V V V k9 zh) (SWl.e2 (Wm (bd:=[.pointer<|some ⟨gw,0,none⟩]) [1,2] (K3 gw s24 (o ++ j5 e.acc ++ grp e.rnd.toNat ++ grp e.ser.toNat) e.box (by first | omega | (simp only [Jk] at *;omega))) V V ⟨zb _,zb _,t9⟩ d9 (sX V) (fun _ h=>h) V) fun s28=>(zP ?_)))
 refine Z1 (fn:=Tryz.f124) (s28) [1,2] (Rs.none V) d9 ⟨⟨_,V,⟨zb _,zF (by rw [(show o ++ j5 e.acc ++ grp e.rnd.toNat ++ grp e.ser.toNat ++ j5 e.box=o ++ Env.sgnT e from by simp [Env.sgnT,Env.sgn,Jq])]),t9⟩⟩,⟨⟨_,V,ZZ (by rw [(show o ++ j5 e.acc ++ grp e.rnd.toNat ++ grp e.ser.toNat ++ j5 e.box=o ++ Env.sgnT e from by simp [Env.sgnT,Env.sgn,Jq])]) (by rw [(show o ++ j5 e.acc ++ grp e.rnd.toNat ++ grp e.ser.toNat ++ j5 e.box=o ++ Env.sgnT e from by simp [Env.sgnT,Env.sgn,Jq])])⟩,t9⟩⟩
theorem Vi (e:Env.T) (h1:e.acc.length≤1000) (h2:0≤e.rnd∧e.rnd≤1048576) (h3:0≤e.ser∧e.ser≤1073741824) (h4:e.box.length≤10000):Con Tryz.prog 134 [Zo [yY e.acc,iD e.rnd,iD e.ser,bD e.box,bD e.tag]] (Yk [bD<|Env.sgnT e,iD 0]):=by
 refine YP Tryz.func134 k9 V k9 fun base w0=>(zp (SWl.e2 (S:=[]) (yv V V) fun g1=>(zf V<|zf V<|zV (SWl.e2 (S:=[]) (zM (zs:=[.int .i64 0,.slice none 0 0]) k9 V) fun g4=>(ze<|zk<|Yf 5 1 Yt<|zO (σ':=zN [(1,_),(4,_)] [_,_,_]) (sB [0,1,2] V V)<|zi<|za V (zA 0 5 V V k9 V zh) (SWl.e2 (zC [1,2] (zcs g4 (⟨none,0,[]⟩:Ust) [] e h1 h2 h3 h4 d9) V ⟨zb _,zb _,t9⟩ d9 (sX V) (fun _ h=>h) V) fun s6=>(zV (SWl.e2 (zC [1,2] (zc7 g4 s6 ([] ++ Env.sgnT e) (by have:=Env.sgn_len (nm:=e.acc) (box:=e.box) o9 o9 h2.2 h3.2;show (Env.sgn _ _ _ _).length≤_;omega)) V ⟨zb _,t9⟩ d9 (sX V) (fun _ h=>h) V) fun _=>(za V (zm V V)<|za V (zm V V)<|zf V<|zf V<|ze<|zK (fn:=Tryz.f134) (fun _ _ h=>h)<|Rs.le (ym V (zj V)<|zj V) ?_)))))))));exact zb _
theorem Vj (key nm:LB) (hk:key.length=32) (hn:nm.length≤32):Con Tryz.prog 132 [bD key,yY nm] (Yk [bD<|Env.keyB key nm,iD 0]):=by
 refine YP Tryz.func132 k9 V k9 fun base w0=>(zp<|zf V<|zf V<|zV<|zd V<|zd V<|za V (Rd.sadd V V (by simp;omega))<|zt (S:=[]) (zY (zhq key _ hk s9 (by simp;omega)) V ⟨zb _,zb _,t9⟩ V)<|za V (zm V V)<|za V (zm V V)<|zf V<|zf V<|ze<|zK (fn:=Tryz.f132) (fun _ _ h=>h)<|Rs.le (ym V (zj V)<|zj V) ?_);exact zb _
