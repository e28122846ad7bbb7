/- A copy of bytes within a region that draws its order; The document's clamped: The document's Poly1305, in plain words. Lists of lists of bytes of the call's own. Condition: as each theorem says. -/
import Derived.OwnWalkIn
import Derived.Test.YthdgbgleklkaiaaDoorQb03
import Derived.Test.YthdgbgleklkaiaaDoorQb04
import Derived.Test.YthdgbgleklkaiaaDoorQb05
import Derived.Test.YthdgbgleklkaiaaDoorQb15
import Derived.Test.YthdgbgleklkaiaaDoorQb17
open Go.Lib renaming hid→acD
open Nat renaming mul_comm→acE,mul_assoc→acF,pow_succ→acH,le_refl→acI,mul_mod→acJ,div_div_eq_div_mul→acL,add_mul_div_left→acM,sub_self→acN,add_mul_mod_self_left→acZ
open List renaming getD→acG,length_map→acK,eq_nil_of_length_eq_zero→acO,map_toArray→acP,map_append→acS,drop_of_length_le→acT,ext_getElem→acU,cons_append→acY,getElem?_append_right→adA,set_append_right→adC,drop_eq_getElem_cons→adD,set_cons_zero→adE,getElem?_eq_none→adG
set_option linter.unusedSimpArgs false
set_option linter.unusedVariables false
set_option maxRecDepth 100000
set_option maxHeartbeats 16000000
namespace Go.Proofs.YthdgbgleklkaiaaDoor.Rd
open Go.RowKit Lm Fp Cu Sc
theorem vB {w:World} {ops:Array Oper} {o:Oper} {a:Act} {K:Act→World→Prop} {Q:Exit→Act→World→Prop} {E:Prop} (hgd:o.guard=none) (d s:Operand)
  (ho:o.op = .call { callee := .builtin .copy,args := #[d,s],argTypes := #[24, 24] }) (g off m c cs:Nat) (ad:Addr) (cur xs:List Int) (t:TypeId)
  (hd:a.eval d = .slice (some ⟨g,off,none⟩) m c) (hs:a.eval s = .slice (some ad) m cs) (hg:w.heap[g]? = some (.cells (arr .u8 cur) t (0,0))) (hsrc:Src w (some ad) m xs) (hfit:off+m≤cur.length)
  (h:∀ w',w'.heap[g]? = some (.cells (arr .u8 (cur.take off ++ xs ++ cur.drop (off+m))) t (0,0))→Kept (fun x=>x=g) w w'→K (a.put o.dst (.int .i64 (m:Int))) w') :
  if Region.wanted o (yielded ops a.tmps)=true then Oper.wp Tryd.prog o a w K Q else E:=by
 have hw:Region.wanted o (yielded ops a.tmps)=true:=by simp [Region.wanted,hgd]
 rw [if_pos hw]
 have hl:=hsrc.len
 have hrun:=run_copy_row (P := Tryd.prog) w 24 24 o.type 5 g off m c ad m cs (arr .u8 cur) t (xs.map (Value.int .u8)) Tryd.underlying24 (by kernel_rfl) hg (by simp [hl]) (jk hsrc _ rfl) (by rw [acK,hl,aD];exact hfit) (mQ _ _)
 unfold Oper.wp execOp
 simp only [ho,resolve,invoke,builtin,Sem.run_bind,Sem.run_pure,Result.andThen_ok,acP,List.map_cons,List.map_nil,hd,hs,hrun]
 have e:((arr .u8 cur).toList.take off ++ xs.map (Value.int .u8) ++ (arr .u8 cur).toList.drop (off+(xs.map (Value.int .u8)).length)).toArray=arr .u8 (cur.take off ++ xs ++ cur.drop (off+m)):=by
  show ((cur.map (Value.int .u8)).take off ++ xs.map (Value.int .u8) ++ (cur.map (Value.int .u8)).drop (off+(xs.map (Value.int .u8)).length)).toArray=((cur.take off ++ xs ++ cur.drop (off+m)).map (Value.int .u8)).toArray
  rw [acK,hl,acS,acS,List.map_take,List.map_drop]
 rw [e,acK,hl]
 exact h _ (setRow_heap w g _ _ t _ hg) ⟨rfl,rfl,rfl,by simp [World.setRow],fun k _ hne=>setRow_other w g k _ hne⟩
theorem Rx {w:World} {g:Nat} {t:TypeId} {fr:Nat×Nat} {s1 s2 s3:Option Addr} {n1 n2 n3 c1 c2 c3:Nat} {x1 x2 x3:List Int} (h:w.heap[g]? = some (.cells #[.slice s1 n1 c1, .slice s2 n2 c2, .slice s3 n3 c3] t fr))
  (h1:Src w s1 n1 x1) (h2:Src w s2 n2 x2) (h3:Src w s3 n3 x3) (l1:n1≤c1) (l2:n2≤c2) (l3:n3≤c3):oq w (some ⟨g,0,none⟩) 3 [x1,x2,x3]:=by
 have e1:=h1.len
 have e2:=h2.len
 have e3:=h3.len
 subst e1 e2 e3
 refine ⟨rfl,fun i hi=>?_⟩
 match i,hi with
 | 0,_=>exact ⟨_,s1,c1,rfl,by rw [show (⟨g,0,none⟩:Addr).add 0=⟨g,0,none⟩ from rfl,aF h];rfl,l1,h1⟩
 | 1,_=>exact ⟨_,s2,c2,rfl,by rw [show (⟨g,0,none⟩:Addr).add 1=⟨g,1,none⟩ from rfl,aF h];rfl,l2,h2⟩
 | 2,_=>exact ⟨_,s3,c3,rfl,by rw [show (⟨g,0,none⟩:Addr).add 2=⟨g,2,none⟩ from rfl,aF h];rfl,l3,h3⟩
theorem copied {cur xs:List Int} {n:Nat} (h1:cur.length=n) (h2:xs.length=n):cur.take 0 ++ xs ++ cur.drop (0+n)=xs:=by
 rw [List.take_zero,List.nil_append,Nat.zero_add,acT (by omega),List.append_nil]
end Go.Proofs.YthdgbgleklkaiaaDoor.Rd
namespace Go.Proofs.YthdgbgleklkaiaaDoor.Rd
open Go.RowKit Lm Fp Cu
theorem xC (v:Nat) (w:World) (hv:v < 2 ^ 256) :
  Calls Tryd.prog 65 #[.agg (arr .u8 (aW (bD 256 32 v)))] w fun e w'=>e = .returned (.agg (arr .u8 (aW (bD 256 32 (clamp v)))))∧Below w.heap.size w w':=by
 have hcs:=TF v hv
 obtain ⟨t1,t2⟩:=pE v hv
 have l1:=Aa v
 have g0:(aW (bD 256 32 v)).getD 0 0=((v % 256:Nat):Int):=by rw [bG,l1]
 have MJ:(aW (bD 256 32 v)).getD 31 0=((v / 256 ^ 31:Nat):Int):=by rw [bG,t1]
 have a0:=and248 (v % 256) (Nat.mod_lt _ (by decide))
 have a1:=or64 (v / 256 ^ 31) t2
 have hfin:((aW (bD 256 32 v)).set 0 ((v % 256 / 8 * 8:Nat):Int)).set 31 ((v / 256 ^ 31 % 64+64:Nat):Int)=aW (bD 256 32 (clamp v)):=by rw [← dw,← dw,hcs]
 obtain ⟨ns,hns⟩:∃ x,x=aW (bD 256 32 v):=⟨_,rfl⟩
 obtain ⟨rs,hrs⟩:∃ x,x=aW (bD 256 32 (clamp v)):=⟨_,rfl⟩
 have yt:Hid (ns.length=32):=acD (by rw [hns,aJ,aK])
 have iG:Hid (rs.length=32):=acD (by rw [hrs,aJ,aK])
 rw [← hns] at g0 MJ hfin ⊢
 rw [← hrs] at hfin
 generalize v / 256 ^ 31=t at MJ a1 hfin t2
 generalize hx:v % 256=x at g0 a0 hfin
 have hx2:x < 256:=by omega
 obtain ⟨zn,hzn⟩:∃ zs:List Int,zs=List.replicate 32 0:=⟨_,rfl⟩
 have dA:Hid (∀ w,(zeroValue 23).run Tryd.prog w = .ok (.agg (arr .u8 zn)) w):=acD (by intro w;rw [hzn];exact zero_num w)
 have cK:Hid (zn.length=32):=acD (by rw [hzn];rfl)
 have bQ:=acD (bM.two w (arr .u8 ns) (arr .u8 zn) 23 23)
 have e2:((arr .u8 ns).setIfInBounds 0 (.int .u8 (bits .and .u8 (x:Int) 248))).setIfInBounds 31 (.int .u8 (bits .or .u8 (bits .and .u8 (t:Int) 127) 64))=arr .u8 rs:=by rw [a0,a1,bf,bf,hfin]
 have HE2:=acD e2
 have CZ:=acD hrs
 have HG0:=acD g0
 have HG31:=acD MJ
 clear hzn hns hrs hcs t1 l1 g0 MJ a0 a1 hfin e2 hx
 go_enter Tryd.func65, Tryd.ntmps65
 go_upto_region 1 with (first|((with_reducible refine aS 2 ?_);refine aj rfl 23 rfl _ (dA.out _) ?_))
 (try simp only [World.size_alloc,Act.put,sA,sZ,sS])
 generalize ((w.alloc (.cells (arr .u8 ns) 23)).alloc (.cells (arr .u8 zn) 23))=wb at bQ ⊢
 have q0:=aP (bQ.out.get 0 rfl) 0 (by rw [yt.out];decide)
 have q1:=aP (bQ.out.get 0 rfl) 31 (by rw [yt.out];decide)
 have q2:=aC (bQ.out.get 0 rfl) 0
 have q3:=aC (bQ.out.get 0 rfl) 31
 rw [HG0.out] at q0
 rw [HG31.out] at q1
 have hb1:=(bQ.out.cell 0 rfl 0 (.int .u8 (bits .and .u8 (x:Int) 248))).cell 0 rfl 31 (.int .u8 (bits .or .u8 (bits .and .u8 (t:Int) 127) 64))
 have iO:=acD (hb1.cast (l':=[(w.heap.size,arr .u8 rs, 23),(w.heap.size+1,arr .u8 zn, 23)]) (by rw [← HE2.out];rfl))
 clear hb1
 go_upto_region 3 with fail
 go_wp2_with (first|((with_reducible refine aS 12 ?_);refine lL rfl rfl (iO.out.get 0 rfl) rfl (au _ _) Tryd.underlying23 rfl (bU iG.out) ?_)|((with_reducible refine aT 2 ?_);refine lS rfl rfl iO 1 rfl rfl rfl (ay _ _ iG.out cK.out) (bE iG.out) (av _ _) ?_;intro w3 HB3))
 (try simp only [Exit.then])
 refine bodyPost_ret (results_cell_row rfl _ _ (w.heap.size+1) 23 _ (0,0) _ rfl (HB3.out.get 1 rfl) Tryd.underlying23 rfl (bE iG.out)) rfl ?_
 exact ⟨by rw [CZ.out],HB3.out.below⟩
end Go.Proofs.YthdgbgleklkaiaaDoor.Rd
namespace Go.Proofs.YthdgbgleklkaiaaDoor.Po
open Go.RowKit Lm
def eH (n:Nat) (f:Nat→Nat):List Nat:=(List.range n).map f
theorem iQ (n:Nat) (f:Nat→Nat):(eH n f).length=n:=by simp [eH]
theorem zB (n:Nat) (f:Nat→Nat) (i:Nat) (h:i < n):(eH n f).getD i 0=f i:=by simp [eH,acG,h]
theorem zA (n:Nat) (f:Nat→Nat) (j x:Nat):(eH n f).set j x=eH n (fun i=>if i=j then x else f i):=by
 apply acU
 ·simp [eH]
 ·intro i h1 h2
  simp only [eH,List.getElem_set,List.getElem_map,List.getElem_range]
  by_cases e:j=i
  ·rw [if_pos e,if_pos e.symm]
  ·rw [if_neg e,if_neg (fun h=>e h.symm)]
theorem jE (n:Nat) (f g:Nat→Nat) (h:∀ i,i < n→f i=g i):eH n f=eH n g:=by
 apply List.map_congr_left
 intro i hi
 exact h i (by simpa using hi)
theorem nJ (n:Nat) (xs:List Nat) (h:xs.length=n):xs=eH n (fun i=>xs.getD i 0):=by
 apply acU
 ·rw [iQ,h]
 ·intro i h1 h2
  simp [eH,acG,h1]
theorem yx (n:Nat) (f:Nat→Nat) (b:Nat) (h:∀ i,i < n→f i < b):∀ x∈eH n f,x < b:=by
 intro x hx
 simp only [eH,List.mem_map,List.mem_range] at hx
 obtain ⟨i,hi,rfl⟩:=hx
 exact h i hi
def sm:Nat→(Nat→Nat)→Nat
 | 0,_=>0
 | n+1,f=>sm n f+f n
theorem acC (n:Nat) (f g:Nat→Nat) (h:∀ i,i < n→f i=g i):sm n f=sm n g:=by
 induction n with
 | zero=>rfl
 | succ n ih=>rw [sm,sm,ih (fun i hi=>h i (by omega)),h n (by omega)]
theorem Vv (n:Nat) (f g:Nat→Nat):sm n (fun i=>f i+g i)=sm n f+sm n g:=by
 induction n with
 | zero=>rfl
 | succ n ih=>rw [sm,sm,sm,ih];omega
theorem EI (n c:Nat) (f:Nat→Nat):sm n (fun i=>c * f i)=c * sm n f:=by
 induction n with
 | zero=>rfl
 | succ n ih=>rw [sm,sm,ih,Nat.mul_add]
theorem sm_zero (n:Nat):sm n (fun _=>0)=0:=by
 induction n with
 | zero=>rfl
 | succ n ih=>rw [sm,ih]
theorem sm_comm (n k:Nat) (f:Nat→Nat→Nat):sm n (fun i=>sm k (fun j=>f i j))=sm k (fun j=>sm n (fun i=>f i j)):=by
 induction k with
 | zero=>exact sm_zero n
 | succ k ih=>simp only [sm];rw [Vv,ih]
theorem sm_le (n b:Nat) (f:Nat→Nat) (h:∀ i,i < n→f i≤b):sm n f≤n * b:=by
 induction n with
 | zero=>simp [sm]
 | succ n ih =>
  have h1:=ih (fun i hi=>h i (by omega))
  have h2:=h n (by omega)
  rw [sm,Nat.succ_mul]
  omega
theorem Vu (n:Nat) (f:Nat→Nat):sm (n+1) f=f 0+sm n (fun i=>f (i+1)):=by
 induction n with
 | zero=>simp [sm]
 | succ n ih =>
  have e:sm (n+1+1) f=sm (n+1) f+f (n+1):=rfl
  have e2:sm (n+1) (fun i=>f (i+1))=sm n (fun i=>f (i+1))+f (n+1):=rfl
  rw [e,ih,e2]
  omega
theorem mK (n:Nat) (f:Nat→Nat):val 256 (eH n f)=sm n (fun i=>256 ^ i * f i):=by
 induction n with
 | zero=>rfl
 | succ n ih =>
  have e:eH (n+1) f=eH n f ++ [f n]:=by simp [eH,List.range_succ]
  rw [e,val_append,ih,iQ,sm]
  simp [val]
def pk (v:Nat):List Nat:=(bD 256 16 v).set 0 (v % 256+5 * (v / 2 ^ 130)) ++ [v / 256 ^ 16 % 4]
theorem Kz (v:Nat):(pk v).length=17:=by simp [pk,aK]
theorem zf (v:Nat):val 256 (pk v)=fold v:=by
 have h:=nH 256 (bD 256 16 v) 0 (v % 256+5 * (v / 2 ^ 130)) (by rw [aK];decide)
 rw [dz _ _ _ _ (by decide),fA] at h
 rw [pk,val_append,List.length_set,aK]
 unfold fold
 simp only [val,Nat.pow_zero,Nat.one_mul,Nat.div_one] at h ⊢
 omega
theorem pk_lt (v b:Nat) (hb:256≤b) (h:v % 256+5 * (v / 2 ^ 130) < b):∀ x∈pk v,x < b:=by
 intro x hx
 rw [pk,List.mem_append,List.mem_singleton] at hx
 rcases hx with hx|rfl
 ·exact jI (fun x hx=>Nat.lt_of_lt_of_le (ig 256 (by decide) 16 v x hx) hb) 0 _ h x hx
 ·omega
theorem lM (b:Nat):∀ n v,bD b (n+1) v=bD b n v ++ [v / b ^ n % b]
 | 0,v=>by simp [bD]
 | n+1,v=>by
  rw [bD,lM b n,bD,acY,acL,acH,acE b]
theorem og (b:Nat) (hb:0 < b):∀ n v x,bD b n (v+b ^ n * x)=bD b n v
 | 0,_,_=>rfl
 | n+1,v,x=>by
  rw [bD,bD]
  have e:b ^ (n+1) * x=b * (b ^ n * x):=by rw [acH,acE (b ^ n) b,acF]
  rw [e,acZ,acM _ _ hb,og b hb n]
def mid (hs:List Nat) (i:Nat):List Nat:=bD 256 i (val 256 (hs.take i)) ++ hs.drop i
theorem mid_zero (hs:List Nat):mid hs 0=hs:=by simp [mid,bD]
theorem mid_len (hs:List Nat) (i:Nat) (h:i≤hs.length):(mid hs i).length=hs.length:=by simp [mid,aK];omega
theorem yE (hs:List Nat) (i:Nat):(mid hs i).getD i 0=hs.getD i 0:=by
 simp only [mid,acG]
 rw [adA (by rw [aK];exact acI _),aK,acN,List.getElem?_drop,Nat.add_zero]
theorem mid_step (hs:List Nat) (i u:Nat) (h:i < hs.length) (hu:u=val 256 (hs.take i) / 256 ^ i) :
  (mid hs i).set i ((u+hs.getD i 0) % 256)=mid hs (i+1)∧(u+hs.getD i 0) / 256=val 256 (hs.take (i+1)) / 256 ^ (i+1):=by
 have hv:=bS 256 hs i h
 have hp:0 < 256 ^ i:=Nat.pow_pos (by decide)
 have hq:(val 256 (hs.take (i+1))) / 256 ^ i=u+hs.getD i 0:=by rw [hv,acM _ _ hp,← hu]
 constructor
 ·rw [mid,mid,lM,hq,hv,og 256 (by decide),adC _ _ (by rw [aK];exact acI _),aK,acN,List.append_assoc]
  congr 1
  rw [adD h,adE]
  rfl
 ·rw [← hq,acH,acL]
theorem mid_end (hs:List Nat) (u:Nat) (h:hs.length=17) (hu:u=val 256 (hs.take 16) / 256 ^ 16) :
  ((mid hs 16).set 16 ((u+hs.getD 16 0) % 4)).set 0 (((mid hs 16).set 16 ((u+hs.getD 16 0) % 4)).getD 0 0+5 * ((u+hs.getD 16 0) / 4))=pk (val 256 hs):=by
 have hv:=bS 256 hs 16 (by omega)
 rw [List.take_of_length_le (show hs.length≤16+1 by omega)] at hv
 have hp:0 < 256 ^ 16:=by decide
 have hq:val 256 hs / 256 ^ 16=u+hs.getD 16 0:=by rw [hv,acM _ _ hp,← hu]
 have hd:mid hs 16=bD 256 16 (val 256 hs) ++ [hs.getD 16 0]:=by
  rw [mid,hv,og 256 (by decide)]
  congr 1
  rw [adD (by omega:16 < hs.length),acT (by omega)]
  simp [acG,show 16 < hs.length by omega]
 rw [hd,adC _ _ (by rw [aK];exact acI _),aK,acN,adE,pk,hq]
 generalize u+hs.getD 16 0=U at hq ⊢
 rw [List.set_append_left _ _ (by rw [aK];decide)]
 congr 2
 have e1:(bD 256 16 (val 256 hs) ++ [U % 4]).getD 0 0=val 256 hs % 256:=by rw [bD,acY];rfl
 rw [e1,show val 256 hs / 2 ^ 130=U / 4 by rw [← hq,acL]]
theorem Ka (b M:Nat) (hb:2≤b):∀ xs:List Nat,(∀ x∈xs,x≤M)→val b xs+M≤M * b ^ xs.length
 | [],_=>by simp [val]
 | x :: xs,h=>by
  have h1:=h x (by simp)
  have h2:=Ka b M hb xs (fun y hy=>h y (by simp [hy]))
  rw [val,List.length_cons,acH]
  have h3:b * (val b xs+M)≤b * (M * b ^ xs.length):=Nat.mul_le_mul_left b h2
  have h4:2 * M≤b * M:=Nat.mul_le_mul_right M hb
  rw [Nat.mul_add] at h3
  have h5:M * (b ^ xs.length * b)=b * (M * b ^ xs.length):=by rw [← acF,acE]
  omega
theorem val17 (hs:List Nat) (hl:hs.length=17) (h:∀ x∈hs,x < 2 ^ 45):val 256 hs < 2 ^ 181:=by
 have:=Ka 256 (2 ^ 45 - 1) (by decide) hs (fun x hx=>by have:=h x hx;omega)
 rw [hl] at this
 omega
theorem I9 (v:Nat) (h:v < 2 ^ 181):fold v < 2 ^ 131:=by unfold fold;omega
theorem Ay (v:Nat) (h:v < 2 ^ 131):fold v < 2 ^ 130+10∧fold (fold v) < 2 ^ 130:=by unfold fold;omega
theorem pk_big (v:Nat) (h:v < 2 ^ 181):∀ x∈pk v,x < 2 ^ 60:=pk_lt v _ (by decide) (by omega)
theorem V9 (v:Nat) (h:v < 2 ^ 131):∀ x∈pk v,x < 266:=pk_lt v _ (by decide) (by omega)
theorem pk_dig (v:Nat) (h:v < 2 ^ 130):pk v=bD 256 17 v:=by
 have e:bD 256 17 v=bD 256 16 v ++ [v / 256 ^ 16 % 256]:=lM 256 16 v
 have e2:(bD 256 16 v).set 0 (v % 256)=bD 256 16 v:=by rw [bD];rfl
 rw [e,pk,show v / 2 ^ 130=0 by omega,Nat.mul_zero,Nat.add_zero,e2]
 congr 2
 omega
def eu (r:Nat→Nat) (j i:Nat):Nat:=if j≤i then r (i - j) else 320 * r (i+17 - j)
theorem VH (r:Nat→Nat) (j:Nat) (h:j≤16):sm 17 (fun i=>256 ^ i * eu r (j+1) i)+64 * (2 ^ 130 - 5) * eu r j 16=256 * sm 17 (fun i=>256 ^ i * eu r j i):=by
 have e1:sm 17 (fun i=>256 ^ i * eu r (j+1) i)=256 ^ 0 * eu r (j+1) 0+sm 16 (fun i=>256 ^ (i+1) * eu r (j+1) (i+1)):=Vu 16 _
 have e2:sm 16 (fun i=>256 ^ (i+1) * eu r (j+1) (i+1))=256 * sm 16 (fun i=>256 ^ i * eu r j i):=by
  rw [← EI]
  apply acC
  intro i hi
  rw [acH,acE (256 ^ i) 256,acF]
  congr 2
  unfold eu
  by_cases hj:j≤i
  ·rw [if_pos (by omega),if_pos hj]
   congr 1
   omega
  ·rw [if_neg (by omega),if_neg hj]
   congr 2
   omega
 have e3:sm 17 (fun i=>256 ^ i * eu r j i)=sm 16 (fun i=>256 ^ i * eu r j i)+256 ^ 16 * eu r j 16:=rfl
 have e4:eu r (j+1) 0=320 * eu r j 16:=by
  unfold eu
  rw [if_neg (by omega),if_pos h]
  congr 2
  omega
 rw [e1,e2,e3,e4]
 omega
theorem Pb (r:Nat→Nat):∀ j,j≤17→sm 17 (fun i=>256 ^ i * eu r j i) % (2 ^ 130 - 5)=256 ^ j * sm 17 (fun i=>256 ^ i * r i) % (2 ^ 130 - 5)
 | 0,_=>by
  rw [Nat.pow_zero,Nat.one_mul]
  refine congrArg (· % (2 ^ 130 - 5)) ?_
  apply acC
  intro i _
  unfold eu
  rw [if_pos (Nat.zero_le _),Nat.sub_zero]
 | j+1,h=>by
  have ih:=Pb r j (by omega)
  have hs:=VH r j (by omega)
  have h1:(256 * sm 17 (fun i=>256 ^ i * eu r j i)) % (2 ^ 130 - 5)=sm 17 (fun i=>256 ^ i * eu r (j+1) i) % (2 ^ 130 - 5):=by
   rw [← hs]
   generalize 2 ^ 130 - 5=P
   rw [acE 64 P,acF,acZ]
  rw [← h1,acJ,ih,← acJ,show 256 ^ (j+1)=256 * 256 ^ j from Nat.pow_succ',acF]
theorem sm_mod (P n:Nat) (f g:Nat→Nat) (h:∀ i,i < n→f i % P=g i % P):sm n f % P=sm n g % P:=by
 induction n with
 | zero=>rfl
 | succ n ih=>rw [sm,sm,Nat.add_mod,ih (fun i hi=>h i (by omega)),h n (by omega),← Nat.add_mod]
def conv (h r:Nat→Nat) (i:Nat):Nat:=sm 17 (fun j=>h j * eu r j i)
theorem abE (h r:Nat→Nat):val 256 (eH 17 (conv h r)) % (2 ^ 130 - 5)=val 256 (eH 17 h) * val 256 (eH 17 r) % (2 ^ 130 - 5):=by
 rw [mK,mK,mK]
 have e1:sm 17 (fun i=>256 ^ i * conv h r i)=sm 17 (fun j=>h j * sm 17 (fun i=>256 ^ i * eu r j i)):=by
  have e2:sm 17 (fun i=>256 ^ i * conv h r i)=sm 17 (fun i=>sm 17 (fun j=>h j * (256 ^ i * eu r j i))):=by
   apply acC
   intro i _
   unfold conv
   rw [← EI]
   apply acC
   intro j _
   rw [← acF,acE (256 ^ i),acF]
  rw [e2,sm_comm]
  apply acC
  intro j _
  rw [EI]
 rw [e1,sm_mod (2 ^ 130 - 5) 17 _ (fun j=>h j * (256 ^ j * sm 17 (fun i=>256 ^ i * r i)))]
 ·congr 1
  rw [acE,← EI]
  apply acC
  intro j _
  rw [acE (256 ^ j),← acF,acE (h j),acF,acE (h j)]
 ·intro j hj
  rw [acJ,Pb r j (by omega),← acJ]
theorem Qw (h r:Nat→Nat) (i:Nat) (hh:∀ j,j < 17→h j < 2 ^ 20) (hr:∀ j,j < 17→r j < 256) (hi:i < 17):conv h r i < 2 ^ 45:=by
 have:conv h r i≤17 * (2 ^ 20 * (320 * 256)):=sm_le _ _ _ (fun j hj=>by
  refine Nat.mul_le_mul (Nat.le_of_lt (hh j hj)) ?_
  unfold eu
  split
  ·have:=hr (i - j) (by omega);omega
  ·have:=hr (i+17 - j) (by omega);omega)
 omega
end Go.Proofs.YthdgbgleklkaiaaDoor.Po
namespace Go.Proofs.YthdgbgleklkaiaaDoor
open Go.RowKit
theorem info_tB:(Tryd.prog.info? 24).map (fun i=>(i.zero,i.size,i.bytes))=some (some (.slice none 0 0),1,24):=by kernel_rfl
theorem nQ {T:Nat→Prop} {w w':World} {B:Nat} {e:TypeId} {size:Nat} {v:Value} {k:Nat} {xs:List Value} (h:w.ownsRow B e size v k xs) (hk:Kept T w w') (hT:∀ g,v.ownBlock=some g→¬ T g):w'.ownsRow B e size v k xs:=by
 obtain ⟨h1,h2⟩:=h
 refine ⟨h1,?_⟩
 rcases h2 with h0|⟨g,cap,cur,rfl,hB,hg,hr⟩
 ·exact .inl h0
 ·exact .inr ⟨g,cap,cur,rfl,hB,hk.blk hg (hT g rfl),hr⟩
theorem KW {w w':World} {r:Option Nat} (h:w.grownBy w' r):Kept (fun g=>r=some g) w w' :=
 ⟨h.os,h.tape,h.output,h.size,fun k hk ht=>h.block k hk (fun e=>ht e.symm)⟩
def dX (w:World) (B:Nat) (v:Value) (L:List (List Int)):Prop :=
 ∃ vs:List Value,w.ownsRow B 24 1 v L.length vs∧vs.length=L.length∧∀ i,i < L.length→jY w B (vs.getD i undef) (L.getD i [])
theorem dX.nil (w:World) (B:Nat):dX w B (.slice none 0 0) []:=⟨[],⟨by simp, .inl ⟨rfl,rfl⟩⟩,rfl,fun i h=>absurd h (by simp)⟩
theorem dX.below {w w':World} {B:Nat} {v:Value} {L:List (List Int)} (h:dX w B v L) (k:Below w.heap.size w w'):dX w' B v L:=by
 obtain ⟨vs,h1,h2,h3⟩:=h
 exact ⟨vs,nQ (T:=fun _=>False) h1 (Kept.of_below k) (fun _ _=>id),h2,fun i hi=>(h3 i hi).kept (T:=fun _=>False) (Kept.of_below k) (fun _ _ _=>id)⟩
theorem dX.alloc {w:World} {B:Nat} {v:Value} {L:List (List Int)} (h:dX w B v L) (o:Obj):dX (w.alloc o) B v L:=h.below ((Below.refl _ w).alloc (acI _) o)
theorem dX.drew {w:World} {B:Nat} {v:Value} {L:List (List Int)} (h:dX w B v L):dX w.drew B v L:=h
theorem dX.drewN {w:World} {B:Nat} {v:Value} {L:List (List Int)} (h:dX w B v L) (n:Nat):dX (w.drewN n) B v L:=h
theorem dX.lt {w:World} {B:Nat} {v:Value} {L:List (List Int)} (h:dX w B v L):∀ k,v.ownBlock=some k→B≤k∧k < w.heap.size:=by
 obtain ⟨vs,h1,h2,h3⟩:=h
 exact World.ownsRow.lt h1
theorem dX.form {w:World} {B:Nat} {v:Value} {L:List (List Int)} (h:dX w B v L) :
  ∃ sa c,v = .slice sa L.length c∧L.length≤c∧oq w sa L.length L∧(∀ a,sa=some a→a.spot=none):=by
 obtain ⟨vs,⟨h1,h2⟩,h3,h4⟩:=h
 rcases h2 with ⟨rfl,h0⟩|⟨g,cap,cur,rfl,hB,hg,hn,hm,hs,ht⟩
 ·have:L=[]:=acO h0
  subst this
  exact ⟨none,0,rfl,by simp,⟨rfl,fun i hi=>absurd hi (by simp)⟩,fun a e=>by cases e⟩
 ·refine ⟨_,cap,rfl,hn,⟨rfl,fun i hi=>?_⟩,fun a e=>by cases e;rfl⟩
  obtain ⟨g',c',sp',e,hB',hg',hc',hm'⟩:=h4 i hi
  refine ⟨_,some ⟨g',0,none⟩,c',rfl,?_,by omega,O3 hg'⟩
  have e1:(⟨g,0,none⟩:Addr).add i=⟨g,i,none⟩:=by unfold Addr.add;split <;> simp_all
  have hl:=congrArg (fun l=>l[i]?) ht
  simp only [Nat.mul_one,List.getElem?_take,hi,if_true] at hl
  rw [e1,aF hg]
  have hv:vs[i]? = some (vs.getD i undef):=by simp [acG,show i < vs.length by omega]
  rw [hv,e] at hl
  simpa using hl
theorem DV {α:Type} (xs:List α) (x d:α) (i:Nat):(xs ++ [x]).getD i d=if i < xs.length then xs.getD i d else if i=xs.length then x else d:=by
 simp only [acG]
 by_cases h:i < xs.length
 ·rw [List.getElem?_append_left h,if_pos h]
 ·rw [if_neg h,adA (by omega)]
  by_cases e:i=xs.length
  ·rw [if_pos e,e];simp
  ·rw [if_neg e,adG (by simp;omega)]
   rfl
theorem dX.snoc {w w':World} {B:Nat} {v v' x:Value} {L:List (List Int)} {l:List Int} (h:dX w B v L) (hx:jY w B x l)
  (hr:∀ vs,w.ownsRow B 24 1 v L.length vs→w'.ownsRow B 24 1 v' (L.length+1) (vs ++ [x])) (hg:w.grownBy w' v.ownBlock):dX w' B v' (L ++ [l]):=by
 obtain ⟨vs,h1,h2,h3⟩:=h
 have hk:=KW hg
 have far:∀ {y ys},jY w B y ys→jY w' B y ys:=by
  intro y ys hy
  obtain ⟨g,cap,sp,e,hB,hb,hc,hm⟩:=hy
  refine ⟨g,cap,sp,e,hB,hk.blk hb ?_,hc,hm⟩
  intro e2
  rcases h1.2 with ⟨rfl,_⟩|⟨g2,cap2,cur2,rfl,_,hb2,_⟩
  ·cases e2
  ·have:g2=g:=by simpa [Value.ownBlock] using e2
   subst this
   rw [hb] at hb2
   simp at hb2
 refine ⟨vs ++ [x],by rw [List.length_append];exact hr vs h1,by simp [h2],fun i hi=>?_⟩
 rw [DV,DV,h2]
 by_cases hlt:i < L.length
 ·rw [if_pos hlt,if_pos hlt]
  exact far (h3 i hlt)
 ·rw [if_neg hlt,if_neg hlt,if_pos (by simp at hi;omega),if_pos (by simp at hi;omega)]
  exact far hx
theorem VD {w:World} {B:Nat} {v x:Value} {L:List (List Int)} {l:List Int} {ty:TypeId} (hown:dX w B v L) (hx:jY w B x l) (hlen:L.length < 1099511627776) (hbase:B≤w.heap.size) :
  ∃ v' w',(Builtin.append_ #[44, 44] ty #[v, .slice (some ⟨w.heap.size,0,none⟩) 1 1]).run Tryd.prog (w.alloc (.cells #[x] 24)) = .ok v' w'∧dX w' B v' (L ++ [l])∧(w.alloc (.cells #[x] 24)).grownBy w' v.ownBlock:=by
 obtain ⟨i0,hi,hz0,hz1,hz2⟩:=info_parts info_tB
 obtain ⟨vs,h1,h2,h3⟩:=hown
 have hb1:Below w.heap.size w (w.alloc (.cells #[x] 24)):=(Below.refl _ w).alloc (acI _) _
 have hone:x.oneCell'=true:=by obtain ⟨g,c,sp,rfl,_⟩:=hx;rfl
 have h1':=nQ (T:=fun _=>False) h1 (Kept.of_below hb1) (fun _ _=>id)
 obtain ⟨v',w',e1,e2,e3,e4,e5⟩:=run_append_own_at (P := Tryd.prog) (w.alloc (.cells #[x] 24)) B 44 ty 24 i0 (.slice none 0 0) 1 24 Tryd.underlying44 hi hz0 hz1 hz2 rfl (by decide) v L.length vs h1' ⟨w.heap.size,0,none⟩ 1 1 [x]
  rfl (by
   intro j u hj
   obtain rfl:j=0:=by
    rcases Nat.eq_zero_or_pos j with h0|h0
    ·exact h0
    ·rw [adG (by simp;omega)] at hj;cases hj
   cases hj
   rw [show (⟨w.heap.size,0,none⟩:Addr).add 0=⟨w.heap.size,0,none⟩ from rfl,aF (aG w _)]
   rfl) (by simp [hone]) (by unfold maxLen;omega) (by omega) (by simp;omega)
 refine ⟨v',w',e1,?_,e3⟩
 exact dX.snoc (L:=L) ⟨vs,h1',h2,fun i hi=>(h3 i hi).kept (T:=fun _=>False) (Kept.of_below hb1) (fun _ _ _=>id)⟩ (hx.kept (T:=fun _=>False) (Kept.of_below hb1) (fun _ _ _=>id))
  (fun vs' hv'=>by
   have:vs'=vs:=by
    rcases hv'.2 with ⟨q,hq⟩|⟨g,cap,cur,q,_,hg,_,_,_,ht⟩
    ·have z1:=hv'.1;have z2:=h1'.1
     rw [hq] at z1 z2
     exact (acO (by simpa using z1)).trans (acO (by simpa using z2)).symm
    ·rcases h1'.2 with ⟨q',_⟩|⟨g2,cap2,cur2,q2,_,hg2,_,_,_,ht2⟩
     ·rw [q'] at q;cases q
     ·rw [q] at q2
      cases q2
      rw [hg] at hg2
      cases hg2
      rw [← ht,← ht2]
   rw [this]
   exact e2) e3
theorem lU {w:World} {ops:Array Oper} {rest:List Oper} {o:Oper} {a:Act} {Q:Exit→Act→World→Prop} (hgd:o.guard=none) (s y:Operand)
  (ho:o.op = .call { callee := .builtin .append,args := #[s,y],argTypes := #[44, 44] })
  (B:Nat) (v x:Value) (L:List (List Int)) (l:List Int) (hs:a.eval s=v) (hy:a.eval y = .slice (some ⟨w.heap.size,0,none⟩) 1 1) (hown:dX w B v L) (hx:jY w B x l) (hlen:L.length < 1099511627776) (hbase:B≤w.heap.size)
  (h:∀ v' w',dX w' B v' (L ++ [l])→(w.alloc (.cells #[x] 24)).grownBy w' v.ownBlock→wpList Tryd.prog ops Q rest (a.put o.dst v') w'):wpList Tryd.prog ops Q (o :: rest) a (w.alloc (.cells #[x] 24)):=by
 refine wpList_plain hgd fun _ hK=>?_
 obtain ⟨v',w',hr,h2,h3⟩:=VD (ty:=o.type) hown hx hlen hbase
 unfold Oper.wp execOp
 simp only [ho,resolve,invoke,builtin,Sem.run_bind,Sem.run_pure,Result.andThen_ok,acP,List.map_cons,List.map_nil,hs,hy,hr]
 exact hK _ _ (h v' w' h2 h3)
end Go.Proofs.YthdgbgleklkaiaaDoor
