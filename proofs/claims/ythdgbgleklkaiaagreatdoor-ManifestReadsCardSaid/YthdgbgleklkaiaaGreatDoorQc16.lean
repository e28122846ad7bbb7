/- sha.take: sha.Sum: Edwards' curve over a field of Fin n in which -1 is. Condition: as each theorem says. -/

import Derived.Test.YthdgbgleklkaiaaGreatDoorQc15
open Go.Lib renaming hid→abC
open List renaming replicate→abD,range→abF,take_of_length_le→abG,replicate_zero→abH,append_assoc→abI,append_nil→abL
open Nat renaming zero_le→abE
set_option linter.unusedSimpArgs false
set_option linter.unusedVariables false
set_option maxRecDepth 100000
set_option maxHeartbeats 16000000
namespace Go.Proofs.YthdgbgleklkaiaaGreatDoor.Ha
open Go.RowKit
theorem set_ok {s:S} (h:s.Ok) {x:Int} (hx:0≤x∧x≤255):∀ y∈s.b.set s.n x,0≤y∧y≤255:=by
 intro y hy
 rcases List.mem_or_eq_of_mem_set hy with h1|rfl
 ·exact h.by0 y h1
 ·exact hx
theorem VK (p:Nat) (s:S) (l x:Int) (w:World) (st:bE w p s.h s.b s.n l) (ok:s.Ok) (hx:0≤x∧x≤255) :
  Calls Tryz.prog 94 #[.pointer (some ⟨p,0,none⟩), .int .u8 x] w fun e w'=>e = .returned (.tuple #[])∧bE w' p (s.take x).h (s.take x).b (s.take x).n l∧Kept (fun i=>i=p) w w':=by
 have hok:=set_ok ok hx
 obtain ⟨h,b,n⟩:=s
 simp only at st hok ⊢
 have hn:n < 64:=ok.n
 have x0:=st.NI
 have x1:=st.at_b n hn
 have x2:=st.fr (72+n)
 have x3:=st.fr 136
 have s1:=(st.Wi n hn x).drew
 have k1:Kept (fun i=>i=p) w (w.setCell ⟨p,72+n,none⟩ (.int .u8 x)).drew:=((Kept.refl _ w).at _ _).drew
 by_cases hf:n+1=64
 ·have e1:S.take ⟨h,b,n⟩ x=⟨comp h (b.set n x),b.set n x,0⟩:=by unfold S.take;rw [if_pos hf]
  have f1:(n:Int)+1=64:=by omega
  have E1:=abC e1
  have F1:=abC f1
  have ht:=fun w st=>VG p h (b.set n x) ((n:Int)+1) l w st hok
  have HT:=abC ht
  have f2:64≤(n:Int)+1:=by omega
  clear e1 f1 hf ht hok ok
  go_enter Tryz.func94, Tryz.ntmps94
  go_wp2_with fail
  go_region
  generalize (w.setCell ⟨p,72+n,none⟩ (.int .u8 x)).drew=w1 at s1 k1 ⊢
  have y0:=s1.NI
  have y1:=s1.fr 136
  have S2:=abC (s1.IB ((n:Int)+1))
  have K2:=abC (k1.at 136 (.int .i64 ((n:Int)+1)))
  clear s1 k1 x0 x1 x2 x3
  go_wp2_with (go_at_call 140; refine (HT.out _ S2.out).mono ?_;rintro e w3 ⟨rfl,s3,k3⟩;have z0:=s3.NI;have z1:=s3.fr 136;have S3:=abC (s3.IB 0);have K3:=abC ((K2.out.trans k3).at 136 (.int .i64 0));clear s3 k3)
  go_end0
  rw [E1.out]
  exact ⟨rfl,S3.out,K3.out⟩
 ·have e1:S.take ⟨h,b,n⟩ x=⟨h,b.set n x,n+1⟩:=by unfold S.take;rw [if_neg hf]
  have E1:=abC e1
  have f2:(n:Int)+1 < 64:=by omega
  clear e1 hf hok ok
  go_enter Tryz.func94, Tryz.ntmps94
  go_wp2_with fail
  go_region
  generalize (w.setCell ⟨p,72+n,none⟩ (.int .u8 x)).drew=w1 at s1 k1 ⊢
  have y0:=s1.NI
  have y1:=s1.fr 136
  have S2:=abC (s1.IB ((n:Int)+1))
  have K2:=abC (k1.at 136 (.int .i64 ((n:Int)+1)))
  clear s1 k1 x0 x1 x2 x3
  go_wp2_with fail
  go_end0
  rw [E1.out]
  exact ⟨rfl,by simpa using S2.out,K2.out⟩
end Go.Proofs.YthdgbgleklkaiaaGreatDoor.Ha
namespace Go.Proofs.YthdgbgleklkaiaaGreatDoor.Ha
open Go.RowKit
theorem nE (w:World):(zeroValue 25).run Tryz.prog w = .ok (.agg (arr .u8 (abD 32 0))) w:=by kernel_rfl
theorem nM:(Tryz.prog.info? 25).map (·.size)=some 32:=by kernel_rfl
structure iQ (w wr:World) (p:Nat) (s:S) (T:Int):Prop where
 st:bE wr p s.h s.b s.n T
 ok:s.Ok
 res:wr.heap[w.heap.size]? = some (.cells (arr .u8 (abD 32 0)) 25 (0,0))
 below:Below w.heap.size w wr
 ne:w.heap.size < p
theorem iQ.take {w wr w':World} {p:Nat} {s:S} {T x:Int} (h:iQ w wr p s T) (hx:0≤x∧x≤255) (st:bE w' p (s.take x).h (s.take x).b (s.take x).n T) (k:Kept (fun i=>i=p) wr w'):iQ w w' p (s.take x) T :=
 ⟨st,h.ok.take x hx,k.blk h.res (by have:=h.ne;omega),h.below.trans (k.toBelow h.below.size (by rintro i rfl;have:=h.ne;omega)),h.ne⟩
theorem iQ.long {w wr:World} {p:Nat} {s:S} {T:Int} (h:iQ w wr p s T) (x:Int):iQ w (wr.setCell ⟨p,137,none⟩ (.int .u64 x)) p s x :=
 ⟨h.st.Wd x,h.ok,ay h.res _ (by have:=h.ne;omega),h.below.setCell (p:=⟨p,137,none⟩) (by have:=h.ne;show w.heap.size≤p;omega) _,h.ne⟩
theorem iQ.alloc {w wr:World} {p:Nat} {s:S} {T:Int} (h:iQ w wr p s T) (o:Obj):iQ w (wr.alloc o) p s T:=⟨h.st.alloc o,h.ok,aY h.res o,h.below.alloc h.below.size o,h.ne⟩
theorem iQ.far {w wr:World} {p g:Nat} {s:S} {T:Int} (h:iQ w wr p s T) (i:Nat) (v:Value) (hg:g≠p) (hw:w.heap.size < g):iQ w (wr.setCell ⟨g,i,none⟩ v) p s T :=
 ⟨h.st.kept ((Kept.refl (fun x=>x=g) wr).at i v) (fun e=>hg e.symm),h.ok,ay h.res _ (by omega),h.below.setCell (p:=⟨g,i,none⟩) (by show w.heap.size≤g;omega) _,h.ne⟩
def zs (n:Nat):Nat:=(2 * 64 - 8 - 1 - n % 64) % 64
theorem tail_eq (n:Nat):tail n=((128 :: abD (zs n) 0) ++ abD (8 - 8) 0) ++ (abF 8).map fun i=>((8 * n / 2 ^ (8 * (7 - i)) % 256:Nat):Int):=by simp [tail,zs]
theorem D9 (x:Int):0≤IntKind.u8.wrap x∧IntKind.u8.wrap x≤255:=by rw [IntKind.wrap_u8];omega
theorem Xo (n j:Nat):IntKind.u8.wrap ((n:Int) * 8 / 2 ^ (8 * (7 - j)))=((8 * n / 2 ^ (8 * (7 - j)) % 256:Nat):Int):=by
 rw [IntKind.wrap_u8,Nat.mul_comm 8 n,Int.natCast_emod,Int.natCast_ediv,Int.natCast_mul,Int.natCast_pow]
 rfl
theorem zI (k:Nat):(128:Int) :: abD (k+1) 0=(128 :: abD k 0) ++ [0]:=by rw [List.replicate_succ',List.cons_append]
theorem yI (h:List Int) (i:Nat) (hi:i < 32) (v:Int) (hv:v=(digest h).getD i 0):((digest h).take i ++ abD (32 - i) 0).set i v=(digest h).take (i+1) ++ abD (32 - (i+1)) 0:=by
 have hl:(digest h).length=32:=by simp [digest]
 rw [gD _ i 0 (by omega),← hv,List.set_append_right _ _ (by simp;omega),show 32 - i=(32 - (i+1))+1 by omega,List.replicate_succ]
 simp [hl,Nat.min_eq_left (Nat.le_of_lt hi)]
theorem dn (h:List Int) (i:Nat) (hi:i < 32):(digest h).getD i 0=h.getD (i / 4) 0 / 2 ^ (8 * (3 - i % 4)) % 256:=by simp [digest,List.getD,hi]
theorem sO (sa:Option Addr) (n c:Nat) (L:List (List Int)) (w:World) (hs:om w sa n L) (hx:∀ l∈L,bytes l) (hN:L.flatten.length≤1152921504606846976) (hn:n≤1099511627776) :
  Calls Tryz.prog 51 #[.slice sa n c] w fun e w'=>e = .returned (.agg (arr .u8 (hash L.flatten)))∧Below w.heap.size w w':=by
 have hres:=aH w (.cells (arr .u8 (abD 32 0)) 25)
 have hLn:=hs.len
 have HB:=abC (fun w=>Uw w)
 have HT:=abC (fun p s l x w st ok hx=>VK p s l x w st ok hx)
 have HRES:=abC hres
 have HS:=abC hs
 have HX:=abC hx
 have JZ:=abC hLn
 clear hres hs hx hLn
 go_enter Tryz.func51, Tryz.ntmps51
 go_wp2_with (first|((with_reducible refine aS 2 ?_);refine ah rfl 25 rfl _ (nE _) ?_)|(go_at_call 93; refine (HB.out _).mono ?_;rintro e w1 ⟨p,rfl,st1,hp1,hb1⟩))
 have hR0:iQ w w1 p S.new 0:=⟨st1,S.Ok.new,Below.blk hb1 HRES.out (by simp),((Below.refl _ w).alloc (Nat.le_refl _) _).trans (hb1.mono (by simp)),by simp at hp1;omega⟩
 have Cm:=abC hR0
 clear hR0 st1 hp1 hb1
 go_loopw [14] (fun i wr=>∃ j:Nat,j≤n∧i = .int .i64 j∧iQ w wr p (S.new.all (L.take j).flatten) ((L.take j).flatten.length:Int)) (fun i _=>n - (intOf i).toNat)
 case atStart=>exact ⟨0,abE _,rfl,Cm.out⟩
 case round =>
  obtain ⟨j,hj,rfl,hR⟩:=hrel
  obtain ⟨wo,rfl⟩:∃ wo:World,wo=wr:=⟨_,rfl⟩
  by_cases hlt:j < n
  ·obtain ⟨a,si,ci,rfl,hc,hlc,hsi⟩:=HS.out.cell j hlt
   have x1:=eD hR.below hc
   have hfl:=QF L j (by rw [JZ.out];exact hlt)
   have hbl:bytes (L.getD j []):=by
    have hjl:j < L.length:=by rw [JZ.out];exact hlt
    simp only [List.getD,List.getElem?_eq_getElem hjl,Option.getD_some]
    exact HX.out _ (List.getElem_mem hjl)
   have HFS:=abC (vk L j (by rw [JZ.out];exact hlt))
   obtain ⟨T,hT⟩:∃ T,T=(L.take j).flatten.length:=⟨_,rfl⟩
   obtain ⟨s0,hs0⟩:∃ s0,s0=S.new.all (L.take j).flatten:=⟨_,rfl⟩
   rw [← hT,← hs0] at hR
   rw [← hT] at hfl
   have UG:=abC hT
   have bW:=abC hs0
   clear hT hs0
   generalize L.getD j []=l at x1 hfl hbl HFS hsi hlc
   obtain ⟨m,hm⟩:∃ m,m=l.length:=⟨_,rfl⟩
   rw [← hm] at x1 hfl hsi hlc
   have HM:=abC hm
   have HR:=abC hR
   have HSI:=abC hsi
   have qM:=abC hbl
   clear hm hR hsi hbl hc
   go_wp2_with fail
   go_loopw [20] (fun i wr=>∃ k:Nat,k≤m∧i = .int .i64 k∧iQ w wr p (s0.all (l.take k)) T) (fun i _=>m - (intOf i).toNat)
   case atStart=>exact ⟨0,abE _,rfl,HR.out⟩
   case round =>
    obtain ⟨k,hk,rfl,hR⟩:=hrel
    by_cases hlt2:k < m
    ·obtain ⟨ad,rfl,hcc⟩:=HSI.out.cell k hlt2
     have x2:=eD hR.below hcc
     have hby:=bytes_at qM.out k
     have HTS:=abC (gD l k 0 (by rw [← HM.out];exact hlt2))
     have HR2:=abC hR
     have HBY:=abC hby
     clear hR hcc hby
     generalize l.getD k 0=x at x2 HTS HBY
     go_wp2_with (go_at_call 94; refine (HT.out _ _ _ _ _ HR2.out.st HR2.out.ok HBY.out).mono ?_;rintro e w5 ⟨rfl,st5,k5⟩;have Ei:=abC (HR2.out.take HBY.out st5 k5);clear st5 k5)
     go_roundw
     case rel=>exact ⟨k+1,by omega,by go_num,by rw [HTS.out,S.jC];exact Ei.out⟩
     case measure=>simp [intOf];omega
    ·have ek:k=m:=by omega
     rw [ek,HM.out,List.take_length] at hR
     have y0:=hR.st.at_l
     have y1:=hR.st.fr 137
     have HR3:=abC (hR.long ((T:Int)+(m:Int)))
     clear ek hR
     go_wp2_with fail
     go_roundw
     case rel =>
      refine ⟨j+1,by omega,by go_num,?_⟩
      rw [HFS.out,S.all_append,← bW.out,List.length_append,← UG.out,← HM.out]
      simpa using HR3.out
     case measure=>simp [intOf];omega
  ·have ej:L.take j=L:=abG (by rw [JZ.out];omega)
   rw [ej] at hR
   obtain ⟨m,hm⟩:∃ m,m=L.flatten:=⟨_,rfl⟩
   rw [← hm] at hR hN
   have HMM:=abC hm
   have HR:=abC hR
   clear ej hR hm
   go_wp2_with (go_at_call 94; refine (HT.out _ _ _ _ _ HR.out.st HR.out.ok ⟨by omega,by omega⟩).mono ?_;rintro e w5 ⟨rfl,st5,k5⟩;have Ei:=abC (HR.out.take ⟨by omega,by omega⟩ st5 k5);clear st5 k5)
   go_loopg [] (zs m.length) (fun g wr=>∃ k:Nat,g+k=zs m.length∧iQ w wr p (S.new.all (m ++ (128 :: abD k 0))) (m.length:Int))
   case atStart=>exact ⟨0,by omega,by rw [abH,S.jC];exact Ei.out⟩
   case round =>
    obtain ⟨k,hk,hR⟩:=hrel
    obtain ⟨wo3,rfl⟩:∃ wo3:World,wo3=wr:=⟨_,rfl⟩
    have hnn:(S.new.all (m ++ (128 :: abD k 0))).n=(m.length+1+k) % 64:=by
     rw [S.Ee _ _ S.Ok.new.n]
     simp [S.new]
     omega
    have hzs:zs m.length=(2 * 64 - 8 - 1 - m.length % 64) % 64:=rfl
    have y0:=hR.st.NI
    by_cases hlt:k < zs m.length
    ·have t1:(((S.new.all (m ++ (128 :: abD k 0))).n:Int) == 56)=false:=by rw [hnn];simp;omega
     have t2:(((S.new.all (m ++ (128 :: abD k 0))).n:Int) != 56)=true:=by rw [hnn];simp;omega
     have HR2:=abC hR
     clear hR hnn hzs
     generalize (((S.new.all (m ++ (128 :: abD k 0))).n:Nat):Int)=nn at y0 t1 t2
     go_wp2_with (go_at_call 94; refine (HT.out _ _ _ _ _ HR2.out.st HR2.out.ok ⟨by omega,by omega⟩).mono ?_;rintro e w6 ⟨rfl,st6,k6⟩;have Od:=abC (HR2.out.take ⟨by omega,by omega⟩ st6 k6);clear st6 k6)
     go_roundg (gk - 1)
     case measure=>omega
     case rel=>exact ⟨k+1,by omega,by rw [zI,← abI,S.jC];exact Od.out⟩
    ·have ek:k=zs m.length:=by omega
     have t1:(((S.new.all (m ++ (128 :: abD k 0))).n:Int) == 56)=true:=by rw [hnn];simp;omega
     have t2:(((S.new.all (m ++ (128 :: abD k 0))).n:Int) != 56)=false:=by rw [hnn];simp;omega
     obtain ⟨m1,hm1⟩:∃ m1,m1=m ++ (128 :: abD k 0):=⟨_,rfl⟩
     rw [← hm1] at hR y0 t1 t2
     rw [ek] at hm1
     have Em:=abC hm1
     have HR2:=abC hR
     clear hR hnn hzs hm1 ek
     generalize (((S.new.all m1).n:Nat):Int)=nn at y0 t1 t2
     go_wp2_with fail
     obtain ⟨m2,hm2⟩:∃ m2,m2=m1 ++ abD (8 - 8) 0:=⟨_,rfl⟩
     have hr2:iQ w wo3 p (S.new.all m2) (m.length:Int):=by
      rw [hm2,show 8 - 8=0 from rfl,abH,abL]
      exact HR2.out
     rw [Em.out] at hm2
     have Ia:=abC hm2
     have HR3:=abC hr2
     clear hm2 hr2
     go_loopw [8] (fun i wr=>∃ j5:Nat,j5≤8∧i = .int .i64 (7 - (j5:Int))∧iQ w wr p (S.new.all (m2 ++ (abF j5).map fun i=>((8 * m.length / 2 ^ (8 * (7 - i)) % 256:Nat):Int))) (m.length:Int)) (fun i _=>(1+intOf i).toNat)
     case atStart=>exact ⟨0,abE _,rfl,by simpa using HR3.out⟩
     case round =>
      obtain ⟨j5,hj5,rfl,hR⟩:=hrel
      by_cases hlt5:j5 < 8
      ·have y1:=hR.st.at_l
       have HR4:=abC hR
       have e1:(8 * (7 - (j5:Int))).toNat=8 * (7 - j5):=by omega
       have e2:0≤8 * (7 - (j5:Int)):=by omega
       have e3:8 * (7 - (j5:Int))≤56:=by omega
       clear hR
       go_wp2_with (go_at_call 94; refine (HT.out _ _ _ _ _ HR4.out.st HR4.out.ok (D9 _)).mono ?_;rintro e w6 ⟨rfl,st6,k6⟩;have Od:=abC (HR4.out.take (D9 _) st6 k6);clear st6 k6)
       clear e1 e2 e3
       go_roundw
       case rel=>exact ⟨j5+1,by omega,by go_num,by rw [List.range_succ,List.map_append,← abI,List.map_singleton,S.jC,← Xo];exact Od.out⟩
       case measure=>simp [intOf];omega
      ·obtain ⟨wo5,rfl⟩:∃ wo5:World,wo5=wr:=⟨_,rfl⟩
       have e5:m2 ++ ((abF j5).map fun i=>((8 * m.length / 2 ^ (8 * (7 - i)) % 256:Nat):Int))=m ++ tail m.length:=by
        rw [show j5=8 by omega,tail_eq,Ia.out]
        simp only [abI]
       rw [e5] at hR
       have hh:hash m=digest (S.new.all (m ++ tail m.length)).h:=rfl
       generalize S.new.all (m ++ tail m.length)=sf at hR hh
       have Eh:=abC hR
       have HH:=abC hh
       clear hR e5 hh
       go_wp2_with ((with_reducible refine aS 9 ?_);refine ah rfl 25 rfl _ (nE _) ?_)
       have hl5:=Eh.out.below.size
       have hpl:=aV Eh.out.st.blk
       have hwp:=Eh.out.ne
       have hR8:iQ w (wo5.alloc (.cells (arr .u8 (abD 32 0)) 25)) p sf (m.length:Int):=Eh.out.alloc _
       have dP:(wo5.alloc (.cells (arr .u8 (abD 32 0)) 25)).heap[wo5.heap.size]? = some (.cells (arr .u8 ((digest sf.h).take 0 ++ abD (32 - 0) 0)) 25 (0,0)):=aH _ _
       have BA:=abC hR8
       have oN:=abC dP
       clear hR8 dP
       go_loopw [63] (fun i wr=>∃ i9:Nat,i9≤32∧i = .int .i64 i9∧wr.heap[wo5.heap.size]? = some (.cells (arr .u8 ((digest sf.h).take i9 ++ abD (32 - i9) 0)) 25 (0,0))∧iQ w wr p sf (m.length:Int)) (fun i _=>32 - (intOf i).toNat)
       case atStart=>exact ⟨0,abE _,rfl,oN.out,BA.out⟩
       case round =>
        obtain ⟨i9,hi9,rfl,hb,hR⟩:=hrel
        have hdl:(digest sf.h).length=32:=by simp [digest]
        by_cases CG:i9 < 32
        ·have y0:=hR.st.at_h (i9 / 4) (by omega)
         have y1:=aJ hb i9 (by simp [hdl];omega)
         have y2:=aC hb i9
         have G1:Hid (∀ v,v=sf.h.getD (i9 / 4) 0 / 2 ^ (8 * (3 - i9 % 4)) % 256→(wr.setCell ⟨wo5.heap.size,i9,none⟩ (.int .u8 v)).heap[wo5.heap.size]? = some (.cells (arr .u8 ((digest sf.h).take (i9+1) ++ abD (32 - (i9+1)) 0)) 25 (0,0))):=abC (by
          rintro v rfl
          rw [bJ hb,yI sf.h i9 CG _ (dn sf.h i9 CG).symm])
         have CV:=abC (fun v=>hR.far (g:=wo5.heap.size) i9 v (by omega) (by omega))
         have e1:(24 - 8 * ((i9:Int) % 4)).toNat=8 * (3 - i9 % 4):=by omega
         have e2:0≤24 - 8 * ((i9:Int) % 4):=by omega
         have e3:24 - 8 * ((i9:Int) % 4)≤24:=by omega
         clear hb hR hdl
         generalize sf.h.getD (i9 / 4) 0=x at y0 G1
         go_wp2_with fail
         clear e1 e2 e3
         go_roundw
         case rel=>exact ⟨i9+1,by omega,by go_num,G1.out _ (IntKind.wrap_u8 _),CV.out _⟩
         case measure=>simp [intOf];omega
        ·rw [show i9=32 by omega,Nat.sub_self,abH,abL,abG (by omega)] at hb
         have z1:(Tryz.prog.info? 25).map (·.size)=some (digest sf.h).length:=by rw [hdl];exact nM
         have z2:(Tryz.prog.info? 25).map (·.size)=some (arr .u8 (digest sf.h)).size:=by rw [aD,hdl];exact nM
         have z3:(arr .u8 (digest sf.h)).size=(arr .u8 (abD 32 0)).size:=by rw [aD,aD,hdl,List.length_replicate]
         have z4:((arr .u8 (digest sf.h)).toList.drop 0).take (digest sf.h).length=(digest sf.h).map (Value.int .u8):=by rw [bN,List.drop_zero,abG (by simp)]
         have HB:=abC hb
         have Ck:=abC hR
         have Z1:=abC z1
         have Z2:=abC z2
         have Z3:=abC z3
         have Z4:=abC z4
         clear hb hR z1 z2 z3 z4 hdl
         go_wp2_with (first|((with_reducible refine aS 82 ?_);refine aB rfl 25 _ rfl wo5.heap.size 0 _ 25 (0,0) _ HB.out rfl .u8 (digest sf.h) Z4.out Tryz.underlying25 rfl Z1.out ?_)|((with_reducible show wpList _ _ _ (Oper.mk none _ _ _ _ _ :: _) _ _);refine au rfl 25 _ _ rfl w.heap.size _ _ 25 Ck.out.res rfl rfl Z3.out Z2.out (ak _ _) ?_;intro w7 jh qP Cy;have fC:=abC jh;have HK7:=abC qP;clear jh qP Cy))
         (try simp only [Exit.inBlock,Exit.then])
         refine bodyPost_ret (results_cell_row rfl _ _ w.heap.size 25 _ (0,0) _ rfl fC.out Tryz.underlying25 rfl Z2.out) rfl ?_
         rw [← HMM.out,HH.out]
         exact ⟨rfl,Ck.out.below.trans (HK7.out.toBelow Ck.out.below.size (by rintro i rfl;exact Nat.le_refl _))⟩
end Go.Proofs.YthdgbgleklkaiaaGreatDoor.Ha
namespace Go.Proofs.YthdgbgleklkaiaaGreatDoor.Ed
section
variable {n:Nat} [NeZero n]
def On (d x y:Fin n):Prop:=y*y=x*x+1+d*(x*x)*(y*y)
structure Rw (d:Fin n):Prop where
 int:∀ a b:Fin n,a * b=0→a=0∨b=0
 im:∃ i:Fin n,i * i = -1
 non:∀ a b:Fin n,a * a=d * (b * b)→b=0
 two:(2:Fin n)≠0
 one:(1:Fin n)≠0
theorem half (d x1 y1 x2 y2 i e:Fin n) (hi:i * i = -1) (h1:On d x1 y1) (h2:On d x2 y2) (he:d*x1*x2*y1*y2=e) (hee:e * e=1) :
  (i*x1+e*y1)*(i*x1+e*y1)=d*((i*(i*x1)*y1*(i*x2+y2))*(i*(i*x1)*y1*(i*x2+y2))):=by
 unfold On at *
 grind
theorem half' (d x1 y1 x2 y2 i e:Fin n) (hi:i * i = -1) (h1:On d x1 y1) (h2:On d x2 y2) (he:d*x1*x2*y1*y2=e) (hee:e * e=1) :
  (i*x1 - e*y1)*(i*x1 - e*y1)=d*((i*(i*x1)*y1*(i*x2 - y2))*(i*(i*x1)*y1*(i*x2 - y2))):=by
 unfold On at *
 grind
theorem Qd {d x1 y1 x2 y2 e:Fin n} (F:Rw d) (h1:On d x1 y1) (h2:On d x2 y2) (he:d*x1*x2*y1*y2=e) (hee:e * e=1):False:=by
 obtain ⟨i,hi⟩:=F.im
 have a1:=F.non _ _ (half d x1 y1 x2 y2 i e hi h1 h2 he hee)
 have a2:=F.non _ _ (half' d x1 y1 x2 y2 i e hi h1 h2 he hee)
 have hxy:¬ x1 * y1=0:=fun h=>F.one (by
  have:e=d * x2 * y2 * (x1 * y1):=by rw [← he];grind
  rw [h] at this
  grind)
 have b1:(x1 * y1) * (i*x2+y2)=0:=by grind
 have b2:(x1 * y1) * (i*x2 - y2)=0:=by grind
 have c1:=(F.int _ _ b1).resolve_left hxy
 have c2:=(F.int _ _ b2).resolve_left hxy
 have c3:2 * y2=0:=by grind
 have c4:=(F.int _ _ c3).resolve_left F.two
 exact F.one (by rw [c4] at he;grind)
theorem whole {d x1 y1 x2 y2:Fin n} (F:Rw d) (h1:On d x1 y1) (h2:On d x2 y2):1+d*x1*x2*y1*y2≠0∧1 - d*x1*x2*y1*y2≠0:=by
 constructor
 ·intro h
  exact Qd F h1 h2 rfl (by grind)
 ·intro h
  exact Qd F h1 h2 rfl (by grind)
theorem closed (d x1 y1 x2 y2 u v:Fin n) (h1:On d x1 y1) (h2:On d x2 y2) (hu:(1+d*x1*x2*y1*y2)*u=1) (hv:(1 - d*x1*x2*y1*y2)*v=1):On d ((x1*y2+y1*x2)*u) ((y1*y2+x1*x2)*v):=by
 unfold On at *
 grind
theorem as_x (d x1 y1 x2 y2 x3 y3:Fin n) (h1:On d x1 y1) (h2:On d x2 y2) (h3:On d x3 y3) :
  ((x1*y2+y1*x2)*(1-d*x1*x2*y1*y2)*y3+(y1*y2+x1*x2)*(1+d*x1*x2*y1*y2)*x3)*((1+d*x2*x3*y2*y3)*(1-d*x2*x3*y2*y3)+d*(x2*y3+y2*x3)*(y2*y3+x2*x3)*x1*y1)=(x1*(y2*y3+x2*x3)*(1+d*x2*x3*y2*y3)+y1*(x2*y3+y2*x3)*(1-d*x2*x3*y2*y3))*((1+d*x1*x2*y1*y2)*(1-d*x1*x2*y1*y2)+d*(x1*y2+y1*x2)*(y1*y2+x1*x2)*x3*y3):=by
 unfold On at *
 grind
theorem as_y (d x1 y1 x2 y2 x3 y3:Fin n) (h1:On d x1 y1) (h2:On d x2 y2) (h3:On d x3 y3) :
  ((y1*y2+x1*x2)*(1+d*x1*x2*y1*y2)*y3+(x1*y2+y1*x2)*(1-d*x1*x2*y1*y2)*x3)*((1+d*x2*x3*y2*y3)*(1-d*x2*x3*y2*y3) - d*(x2*y3+y2*x3)*(y2*y3+x2*x3)*x1*y1)=(y1*(y2*y3+x2*x3)*(1+d*x2*x3*y2*y3)+x1*(x2*y3+y2*x3)*(1-d*x2*x3*y2*y3))*((1+d*x1*x2*y1*y2)*(1-d*x1*x2*y1*y2) - d*(x1*y2+y1*x2)*(y1*y2+x1*x2)*x3*y3):=by
 unfold On at *
 grind
def Inv (inv:Fin n→Fin n):Prop:=∀ a:Fin n,a≠0→a * inv a=1
def iB (d:Fin n) (inv:Fin n→Fin n) (P Q:Fin n×Fin n):Fin n×Fin n :=
 ((P.1*Q.2+P.2*Q.1) * inv (1+d*P.1*Q.1*P.2*Q.2),(P.2*Q.2+P.1*Q.1) * inv (1 - d*P.1*Q.1*P.2*Q.2))
def NT (d:Fin n) (P:Fin n×Fin n):Prop:=On d P.1 P.2
theorem cross {L R N N' D D':Fin n} (hL:L * D=N) (hR:R * D'=N') (h:N * D'=N' * D):(L - R) * (D * D')=0:=by grind
theorem zsub {L R:Fin n} (h:L - R=0):L=R:=by grind
theorem frac {d L R N N' D D':Fin n} (F:Rw d) (hL:L * D=N) (hR:R * D'=N') (h:N * D'=N' * D) (hD:D≠0) (hD':D'≠0):L=R:=by
 rcases F.int _ _ (cross hL hR h) with h2|h2
 ·exact zsub h2
 ·rcases F.int _ _ h2 with h3|h3
  ·exact absurd h3 hD
  ·exact absurd h3 hD'
theorem jy {d a b:Fin n} (F:Rw d) (ha:a≠0) (hb:b≠0):a * b≠0:=fun h=>(F.int _ _ h).elim ha hb
theorem Fx {d:Fin n} {inv:Fin n→Fin n} (F:Rw d) (I:Inv inv) {P Q:Fin n×Fin n} (h1:NT d P) (h2:NT d Q):NT d (iB d inv P Q):=by
 obtain ⟨a,b⟩:=whole F h1 h2
 exact closed d P.1 P.2 Q.1 Q.2 _ _ h1 h2 (I _ a) (I _ b)
theorem cm1 (d a b c e:Fin n):d*a*b*c*e=d*b*a*e*c:=by grind
theorem cm2 (a b c e:Fin n):a*b+c*e=e*c+b*a:=by grind
theorem cm3 (a b c e:Fin n):a*b+c*e=b*a+e*c:=by grind
theorem add_comm {d:Fin n} {inv:Fin n→Fin n} (P Q:Fin n×Fin n):iB d inv P Q=iB d inv Q P:=by
 unfold iB
 rw [cm1 d P.1 Q.1 P.2 Q.2,cm2 P.1 Q.2 P.2 Q.1,cm3 P.2 Q.2 P.1 Q.1]
theorem cl1 (d A B u v p m x y:Fin n) (hu:p*u=1) (hv:m*v=1):p*m*(1+d*(A*u)*x*(B*v)*y)=p*m+d*A*B*x*y:=by grind
theorem cl2 (d A B u v p m x y:Fin n) (hu:p*u=1) (hv:m*v=1):p*m*(1+d*x*(A*u)*y*(B*v))=p*m+d*A*B*x*y:=by grind
theorem cl3 (d A B u v p m x y:Fin n) (hu:p*u=1) (hv:m*v=1):p*m*(1 - d*(A*u)*x*(B*v)*y)=p*m - d*A*B*x*y:=by grind
theorem cl4 (d A B u v p m x y:Fin n) (hu:p*u=1) (hv:m*v=1):p*m*(1 - d*x*(A*u)*y*(B*v))=p*m - d*A*B*x*y:=by grind
theorem nm1 (A B u v p m x y w X:Fin n) (hu:p*u=1) (hv:m*v=1) (hw:X*w=1):((A*u)*y+(B*v)*x)*w*(p*m*X)=A*m*y+B*p*x:=by grind
theorem nm2 (A B u v p m x y w X:Fin n) (hu:p*u=1) (hv:m*v=1) (hw:X*w=1):(x*(B*v)+y*(A*u))*w*(p*m*X)=x*B*p+y*A*m:=by grind
theorem nm3 (A B u v p m x y w X:Fin n) (hu:p*u=1) (hv:m*v=1) (hw:X*w=1):((B*v)*y+(A*u)*x)*w*(p*m*X)=B*p*y+A*m*x:=by grind
theorem add_assoc {d:Fin n} {inv:Fin n→Fin n} (F:Rw d) (I:Inv inv) {P Q R:Fin n×Fin n} (h1:NT d P) (h2:NT d Q) (h3:NT d R):iB d inv (iB d inv P Q) R=iB d inv P (iB d inv Q R):=by
 have h12:=Fx F I h1 h2
 have h23:=Fx F I h2 h3
 obtain ⟨p1,m1⟩:=whole F h1 h2
 obtain ⟨p2,m2⟩:=whole F h2 h3
 obtain ⟨p3,m3⟩:=whole F h12 h3
 obtain ⟨p4,m4⟩:=whole F h1 h23
 obtain ⟨x1,y1⟩:=P
 obtain ⟨x2,y2⟩:=Q
 obtain ⟨x3,y3⟩:=R
 have u1:=I _ p1
 have v1:=I _ m1
 have u2:=I _ p2
 have v2:=I _ m2
 have u3:=I _ p3
 have v3:=I _ m3
 have u4:=I _ p4
 have v4:=I _ m4
 simp only [iB] at *
 generalize inv (1+d*x1*x2*y1*y2)=u at *
 generalize inv (1 - d*x1*x2*y1*y2)=v at *
 generalize inv (1+d*x2*x3*y2*y3)=u' at *
 generalize inv (1 - d*x2*x3*y2*y3)=v' at *
 have k1:=as_x d x1 y1 x2 y2 x3 y3 h1 h2 h3
 have k2:=as_y d x1 y1 x2 y2 x3 y3 h1 h2 h3
 have q1:=jy F (jy F p1 m1) p3
 have q2:=jy F (jy F p2 m2) p4
 have q3:=jy F (jy F p1 m1) m3
 have q4:=jy F (jy F p2 m2) m4
 have e1:=cl1 d (x1*y2+y1*x2) (y1*y2+x1*x2) u v _ _ x3 y3 u1 v1
 have e2:=cl2 d (x2*y3+y2*x3) (y2*y3+x2*x3) u' v' _ _ x1 y1 u2 v2
 have e3:=cl3 d (x1*y2+y1*x2) (y1*y2+x1*x2) u v _ _ x3 y3 u1 v1
 have e4:=cl4 d (x2*y3+y2*x3) (y2*y3+x2*x3) u' v' _ _ x1 y1 u2 v2
 rw [← e1,← e2] at k1
 rw [← e3,← e4] at k2
 apply Prod.ext
 ·exact frac F (nm1 _ _ _ _ _ _ _ _ _ _ u1 v1 u3) (nm2 _ _ _ _ _ _ _ _ _ _ u2 v2 u4) k1 q1 q2
 ·exact frac F (nm3 _ _ _ _ _ _ _ _ _ _ u1 v1 v3) (nm2 _ _ _ _ _ _ _ _ _ _ u2 v2 v4) k2 q3 q4
theorem o1 (d a b:Fin n):1+d*a*0*b*1=1:=by grind
theorem o2 (d a b:Fin n):1 - d*a*0*b*1=1:=by grind
theorem o3 (a b k:Fin n) (h:1 * k=1):(a * 1+b * 0) * k=a:=by grind
theorem add_zero {d:Fin n} {inv:Fin n→Fin n} (I:Inv inv) (h1:(1:Fin n)≠0) (P:Fin n×Fin n):iB d inv P (0,1)=P:=by
 have k:=I 1 h1
 simp only [iB]
 rw [o1,o2]
 exact Prod.ext (o3 _ _ _ k) (o3 _ _ _ k)
end
end Go.Proofs.YthdgbgleklkaiaaGreatDoor.Ed
