/- Strings as bytes: The hash of sha, block by block. HMAC with SHA-256, in plain words. ChaCha20 in plain words. chacha.quarter, word and the document's quarter, little: chacha.quart. Condition: as each theorem says. -/
import Derived.Lib.AppendStr
import Derived.Lib.ConvBytes
import Derived.StillTailTactics
import Derived.Test.YthdgbgleklkaiaaDoorQb01
import Derived.Test.YthdgbgleklkaiaaDoorQb03
import Derived.Test.YthdgbgleklkaiaaDoorQb04
import Derived.Test.YthdgbgleklkaiaaDoorQb10
open Go.Lib renaming hid→acD
open List renaming length_drop→acE,take_succ_cons→acF,take_zero→acG,drop_succ_cons→acH,drop_zero→acI,range→acJ,getD→acK,length_append→acL,length_map→acM,drop_eq_nil_of_le→acN,mem_map→acO,mem_range→acP,getElem?_eq_none→acQ,range_succ→acR,foldl_append→acS,nil_append→acT,append_nil→acU,take_succ_eq_append_getElem→acV,take_of_length_le→acW,length_take→acX
set_option linter.unusedSimpArgs false
set_option linter.unusedVariables false
set_option maxRecDepth 100000
set_option maxHeartbeats 16000000
namespace Go.Proofs.YthdgbgleklkaiaaDoor
open Go.RowKit
theorem qU (place:Nat→Option (Nat×Nat)) (k:IntKind) (X Y a:List Int) (i off:Nat) (rest:List (Nat×Value)) (ho:off=X.length) (hp:place i=some (off,a.length)) (hY:a.length≤Y.length) :
  Instr.fill place (arr k (X ++ Y)) ((i, .agg (arr k a)) :: rest)=Instr.fill place (arr k (X ++ a ++ Y.drop a.length)) rest:=by
 subst ho
 have s:(Value.agg (arr k a)).cells.size=a.length:=by simp [Value.cells,aD]
 rw [DX _ _ _ _ _ X.length (by rw [s];exact hp) (by rw [s,aD,acL];omega)]
 congr 1
 simp only [Value.cells,arr,List.size_toArray,acM,List.map_append]
 congr 1
 have e1:List.take X.length (X.map (Value.int k) ++ Y.map (Value.int k))=X.map (Value.int k):=List.take_left' (by simp)
 have e2:List.drop (X.length+a.length) (X.map (Value.int k) ++ Y.map (Value.int k))=(Y.drop a.length).map (Value.int k):=by
  rw [List.drop_append,acN (by simp),acM,Nat.add_sub_cancel_left,acT,List.map_drop]
 rw [e1,e2]
theorem fill4 (k:IntKind) (n:Nat) (a b c d z:List Int) (ha:a.length=n) (hb:b.length=n) (hc:c.length=n) (hd:d.length=n) (hz:z.length=4 * n) :
  Instr.fill (fun x => #[((0:Nat),n),(n,n),(2 * n,n),(3 * n,n)][x]?) (arr k z)
   [(0, .agg (arr k a)),(1, .agg (arr k b)),(2, .agg (arr k c)),(3, .agg (arr k d))]=some (arr k (a ++ b ++ c ++ d)):=by
 have h0:=qU (fun x => #[((0:Nat),n),(n,n),(2 * n,n),(3 * n,n)][x]?) k [] z a 0 0 [(1, .agg (arr k b)),(2, .agg (arr k c)),(3, .agg (arr k d))] rfl (by rw [ha];rfl) (by omega)
 have h1:=qU (fun x => #[((0:Nat),n),(n,n),(2 * n,n),(3 * n,n)][x]?) k a (z.drop n) b 1 n [(2, .agg (arr k c)),(3, .agg (arr k d))] ha.symm (by rw [hb];rfl) (by rw [acE];omega)
 have h2:=qU (fun x => #[((0:Nat),n),(n,n),(2 * n,n),(3 * n,n)][x]?) k (a ++ b) ((z.drop n).drop n) c 2 (2 * n) [(3, .agg (arr k d))] (by rw [acL];omega) (by rw [hc];rfl) (by rw [acE,acE];omega)
 have h3:=qU (fun x => #[((0:Nat),n),(n,n),(2 * n,n),(3 * n,n)][x]?) k (a ++ b ++ c) (((z.drop n).drop n).drop n) d 3 (3 * n) [] (by rw [acL,acL];omega) (by rw [hd];rfl) (by rw [acE,acE,acE];omega)
 simp only [acT,ha] at h0
 rw [hb] at h1
 rw [hc] at h2
 rw [hd] at h3
 rw [h0,h1,h2,h3,Instr.fill]
 have e:(((z.drop n).drop n).drop n).drop n=[]:=acN (by rw [acE,acE,acE];omega)
 rw [e,acU]
end Go.Proofs.YthdgbgleklkaiaaDoor
namespace Go.Proofs.YthdgbgleklkaiaaDoor.Ha
open Go.RowKit
theorem S.take_len (s:S) (x:Int):(s.take x).h.length=s.h.length∧(s.take x).b.length=s.b.length:=by
 unfold S.take
 split
 ·exact ⟨qy _ _,by simp⟩
 ·exact ⟨rfl,by simp⟩
theorem S.oo:∀ (xs:List Int) (s:S),(s.all xs).h.length=s.h.length∧(s.all xs).b.length=s.b.length
 | [],_=>⟨rfl,rfl⟩
 | x :: xs,s=>by
  have:=S.oo xs (s.take x)
  have h:=S.take_len s x
  exact ⟨this.1.trans h.1,this.2.trans h.2⟩
theorem set_mid (a b:List Int) (i:Nat) (x:Int) (ha:a.length=i) (hb:i < b.length):(a ++ b.drop i).set i x=a ++ [x] ++ b.drop (i+1):=by
 rw [List.set_append_right _ _ (by omega),ha,Nat.sub_self,List.drop_eq_getElem_cons hb,List.set_cons_zero]
 simp
theorem S.FT (s:S) (bl:List Int) (hn:s.n=0) (hb:s.b.length=64) (hl:bl.length=64):∀ i,i < 64→s.all (bl.take i)=⟨s.h,bl.take i ++ s.b.drop i,i⟩:=by
 intro i
 induction i with
 | zero =>
  intro _
  obtain ⟨h,b,n⟩:=s
  simp only at hn
  subst hn
  simp [S.all]
 | succ i ih =>
  intro hi
  have e:bl.take (i+1)=bl.take i ++ [bl.getD i 0]:=by
   rw [acV (by omega)]
   simp [acK,show i < bl.length by omega]
  rw [e,S.jw,ih (by omega),S.take,if_neg (by show ¬ i+1=_;omega)]
  simp only
  rw [set_mid _ _ _ _ (by simp;omega) (by omega)]
theorem S.vV (s:S) (bl:List Int) (hn:s.n=0) (hb:s.b.length=64) (hl:bl.length=64):s.all bl=⟨comp s.h bl,bl,0⟩:=by
 have e:bl=bl.take (64 - 1) ++ [bl.getD (64 - 1) 0]:=by
  have:bl.take (64 - 1+1)=bl.take (64 - 1) ++ [bl.getD (64 - 1) 0]:=by
   rw [acV (by omega)]
   simp [acK,hl]
  rw [← this,acW (by omega)]
 have hd:(bl.take (64 - 1) ++ s.b.drop (64 - 1)).set (64 - 1) (bl.getD (64 - 1) 0)=bl:=by
  rw [set_mid _ _ _ _ (by simp;omega) (by omega),acN (by omega),acU,← e]
 have h1:s.all bl=(s.all (bl.take (64 - 1))).take (bl.getD (64 - 1) 0):=by rw [← S.jw,← e]
 rw [h1,S.FT s bl hn hb hl _ (by omega),S.take,if_pos rfl]
 simp only [hd]
def eU (pm:List Int) (q:Nat):List Int:=(pm.drop (64 * q)).take 64
def jq (pm:List Int) (q:Nat):List Int:=(S.new.all (pm.take (64 * q))).h
theorem Lb (pm:List Int) (q:Nat):(jq pm q).length=8:=(S.oo _ _).1
theorem Fv (pm:List Int):jq pm 0=H0:=by simp [jq,S.all,S.new]
theorem Fw (pm:List Int) (q:Nat) (h:64 * (q+1)≤pm.length):jq pm (q+1)=comp (jq pm q) (eU pm q):=by
 unfold jq eU
 have e:pm.take (64 * (q+1))=pm.take (64 * q) ++ (pm.drop (64 * q)).take 64:=by rw [Nat.mul_succ,List.take_add]
 rw [e,S.all_append,S.vV _ _ ?_ ?_ ?_]
 ·rw [S.Eh _ _ S.Ok.new.n,acX,Nat.min_eq_left (by omega)]
  show (0+64 * q) % 64=0
  omega
 ·rw [(S.oo _ _).2];simp [S.new]
 ·rw [acX,acE];omega
theorem Lc (pm:List Int) (q:Nat) (h:pm.length=64 * q):(S.new.all pm).h=jq pm q:=by
 unfold jq
 rw [acW (by omega)]
theorem FP (pm:List Int) (q j:Nat) (hj:j < 64):(eU pm q).getD j 0=pm.getD (64 * q+j) 0:=by
 unfold eU
 simp only [acK,List.getElem?_take,hj,if_true,List.getElem?_drop]
theorem zx (n:Nat):∃ q,n+(tail n).length=64 * q:=by
 refine ⟨(n+(tail n).length) / 64,?_⟩
 have:(tail n).length=1+(2 * 64 - 8 - 1 - n % 64) % 64+8:=by simp [tail];omega
 rw [this]
 omega
theorem rP (n:Nat):∀ x∈tail n,0≤x∧x≤255:=by
 intro x hx
 simp only [tail,List.mem_append,List.mem_cons,List.mem_replicate,acO,acP] at hx
 rcases hx with ((rfl|⟨_,rfl⟩)|⟨_,rfl⟩)|⟨i,_,rfl⟩
 all_goals omega
end Go.Proofs.YthdgbgleklkaiaaDoor.Ha
namespace Go.Proofs.YthdgbgleklkaiaaDoor.Wr
open Go.RowKit
def kQ (key:List Int) (b:Int) (i:Nat):List Int:=(acJ 64).map fun j=>if j < i then bits .xor .u8 (key.getD j 0) b else key.getD j 0
def pad (key:List Int) (b:Int):List Int:=kQ key b 64
def KS (key msg:List Int):List Int:=Ha.hash (pad key 92 ++ Ha.hash (pad key 54 ++ msg))
def G8 (e z:List Int):List Int:=KS (KS e z) [119,114,97,112,1]
theorem jV (key:List Int) (b:Int) (i:Nat):(kQ key b i).length=64:=by simp [kQ]
theorem Dw (key:List Int) (b:Int) (h:key.length≤64):key ++ List.replicate (64 - key.length) 0=kQ key b 0:=by
 apply List.ext_getElem
 ·simp [kQ];omega
 ·intro i h1 h2
  simp only [kQ,List.getElem_map,List.getElem_range,Nat.not_lt_zero,if_false]
  rw [List.getElem_append]
  split
  ·rename_i h3
   simp [acK,List.getElem?_eq_getElem h3]
  ·rename_i h3
   simp [acK,acQ (Nat.not_lt.1 h3)]
theorem Wj (key:List Int) (b:Int) (i:Nat) (h:i < 64):(kQ key b i).getD i 0=key.getD i 0:=by
 simp [kQ,acK,h]
theorem Wi (key:List Int) (b:Int) (i:Nat) (h:i < 64):(kQ key b i).set i (bits .xor .u8 (key.getD i 0) b)=kQ key b (i+1):=by
 apply List.ext_getElem?
 intro j
 rw [List.getElem?_set]
 by_cases hj:j < 64
 ·simp only [kQ,List.getElem?_map,List.getElem?_range hj,acM,List.length_range,Option.map_some]
  by_cases e:i=j
  ·subst e
   rw [if_pos rfl,if_pos h,if_pos (by omega)]
  ·rw [if_neg e]
   by_cases h3:j < i
   ·rw [if_pos h3,if_pos (by omega)]
   ·rw [if_neg h3,if_neg (by omega)]
 ·rw [if_neg (by omega),acQ (by rw [jV];omega),acQ (by rw [jV];omega)]
theorem za (a b:Int):0≤bits .xor .u8 a b∧bits .xor .u8 a b≤255:=by
 show 0≤IntKind.u8.wrap _∧IntKind.u8.wrap _≤255
 rw [IntKind.wrap_u8]
 omega
theorem Dv (key:List Int) (b:Int):bytes (pad key b):=by
 intro x hx
 simp only [pad,kQ,acO,acP] at hx
 obtain ⟨j,h,rfl⟩:=hx
 rw [if_pos h]
 exact za _ _
theorem dS (m:List Int):(Ha.hash m).length=32:=by simp [Ha.hash,Ha.digest]
theorem fu (m:List Int):bytes (Ha.hash m):=by
 intro x hx
 simp only [Ha.hash,Ha.digest,acO,acP] at hx
 obtain ⟨i,_,rfl⟩:=hx
 omega
theorem Fa (k m:List Int):(KS k m).length=32:=dS _
theorem SA (k m:List Int):bytes (KS k m):=fu _
theorem tX (e z:List Int):(G8 e z).length=32:=dS _
theorem J9 (e z:List Int):bytes (G8 e z):=fu _
end Go.Proofs.YthdgbgleklkaiaaDoor.Wr
namespace Go.Proofs.YthdgbgleklkaiaaDoor.Ch
open Go.RowKit
def rotl (x m n:Int):Int:=bits .or .u32 (IntKind.u32.wrap (x * m)) (x / n)
def add (x y:Int):Int:=(x+y) % 4294967296
def qa (s:List Int) (a b:Nat):List Int:=s.set a (add (s.getD a 0) (s.getD b 0))
def qx (s:List Int) (d a:Nat) (m n:Int):List Int:=s.set d (rotl (bits .xor .u32 (s.getD d 0) (s.getD a 0)) m n)
def quarter (s:List Int) (a b c d:Nat):List Int :=
 qx (qa (qx (qa (qx (qa (qx (qa s a b) d a 65536 65536) c d) b c 4096 1048576) a b) d a 256 16777216) c d) b c 128 33554432
theorem zQ (s:List Int) (a b:Nat):(qa s a b).length=s.length:=by simp [qa]
theorem zP (s:List Int) (d a:Nat) (m n:Int):(qx s d a m n).length=s.length:=by simp [qx]
theorem eT (s:List Int) (a b c d:Nat):(quarter s a b c d).length=s.length:=by simp [quarter,zQ,zP]
def word (b:List Int) (o:Nat):Int:=bits .or .u32 (bits .or .u32 (bits .or .u32 (b.getD o 0) (b.getD (o+1) 0 * 256)) (b.getD (o+2) 0 * 65536)) (b.getD (o+3) 0 * 16777216)
def begin (key:List Int) (counter:Int) (aM:List Int):List Int :=
 [1634760805,857760878,2036477234,1797285236] ++ ((acJ 8).map fun i=>word key (4 * i)) ++ [counter] ++ ((acJ 3).map fun i=>word aM (4 * i))
theorem TW (key:List Int) (counter:Int) (aM:List Int):(begin key counter aM).length=16:=by simp [begin]
def Ji (s:List Int) (k:Nat):List Int:=(acJ k).foldl (fun s i=>quarter s i (4+i) (8+i) (12+i)) s
def diags (s:List Int) (k:Nat):List Int:=(acJ k).foldl (fun s i=>quarter s i (4+(i+1) % 4) (8+(i+2) % 4) (12+(i+3) % 4)) s
def doubles (s:List Int) (k:Nat):List Int:=(acJ k).foldl (fun s _=>diags (Ji s 4) 4) s
theorem TA (s:List Int) (k:Nat):Ji s (k+1)=quarter (Ji s k) k (4+k) (8+k) (12+k):=by simp [Ji,acR,acS]
theorem M4 (s:List Int) (k:Nat):diags s (k+1)=quarter (diags s k) k (4+(k+1) % 4) (8+(k+2) % 4) (12+(k+3) % 4):=by simp [diags,acR,acS]
theorem uN (s:List Int) (k:Nat):doubles s (k+1)=diags (Ji (doubles s k) 4) 4:=by simp [doubles,acR,acS]
theorem abF (s:List Int) (k:Nat):(Ji s k).length=s.length:=by
 induction k with
 | zero=>rfl
 | succ k ih=>rw [TA,eT,ih]
theorem Tw (s:List Int) (k:Nat):(diags s k).length=s.length:=by
 induction k with
 | zero=>rfl
 | succ k ih=>rw [M4,eT,ih]
theorem xB (s:List Int) (k:Nat):(doubles s k).length=s.length:=by
 induction k with
 | zero=>rfl
 | succ k ih=>rw [uN,Tw,abF,ih]
def fT (v s:List Int):List Int:=(acJ 64).map fun i=>add (v.getD (i / 4) 0) (s.getD (i / 4) 0) / 2 ^ (8 * (i % 4)) % 256
def block (key:List Int) (counter:Int) (aM:List Int):List Int:=fT (doubles (begin key counter aM) 10) (begin key counter aM)
theorem qW (key:List Int) (counter:Int) (aM:List Int):(block key counter aM).length=64:=by simp [block,fT]
def turn (key:List Int) (c:Int) (aM b:List Int):List Int:=b.mapIdx fun i x=>bits .xor .u8 x ((block key ((c+(i / 64:Nat)) % 4294967296) aM).getD (i % 64) 0)
theorem zl (key:List Int) (c:Int) (aM b:List Int):(turn key c aM b).length=b.length:=by simp [turn]
theorem aI {w:World} {g:Nat} {k:IntKind} {xs:List Int} {t:TypeId} {fr:Nat×Nat} (h:w.heap[g]? = some (.cells (arr k xs) t fr)) (i:Nat) (hi:i < xs.length):w.cell? ⟨g,i,none⟩=some (.int k (xs.getD i 0)):=(aF h i).trans (uQ _ _ _ hi)
theorem bI {w:World} {g:Nat} {k:IntKind} {xs:List Int} {t:TypeId} (h:w.heap[g]? = some (.cells (arr k xs) t (0,0))) (i:Nat) (x:Int):(w.setCell ⟨g,i,none⟩ (.int k x)).heap[g]? = some (.cells (arr k (xs.set i x)) t (0,0)):=by
 rw [bq h]
 congr 2
 simp [arr,List.map_set]
end Go.Proofs.YthdgbgleklkaiaaDoor.Ch
namespace Go.Proofs.YthdgbgleklkaiaaDoor.Ch
open Go.RowKit
theorem rol_16 (x:Int) (w:World):Calls Tryd.prog 101 #[.int .u32 x, .int .u64 16] w fun e w'=>e = .returned (.int .u32 (rotl x 65536 65536))∧w=w':=by
 go_enter Tryd.func101, Tryd.ntmps101
 go_wp2
 go_ret
 exact ⟨rfl,rfl⟩
theorem rol_12 (x:Int) (w:World):Calls Tryd.prog 101 #[.int .u32 x, .int .u64 12] w fun e w'=>e = .returned (.int .u32 (rotl x 4096 1048576))∧w=w':=by
 go_enter Tryd.func101, Tryd.ntmps101
 go_wp2
 go_ret
 exact ⟨rfl,rfl⟩
theorem rol_8 (x:Int) (w:World):Calls Tryd.prog 101 #[.int .u32 x, .int .u64 8] w fun e w'=>e = .returned (.int .u32 (rotl x 256 16777216))∧w=w':=by
 go_enter Tryd.func101, Tryd.ntmps101
 go_wp2
 go_ret
 exact ⟨rfl,rfl⟩
theorem rol_7 (x:Int) (w:World):Calls Tryd.prog 101 #[.int .u32 x, .int .u64 7] w fun e w'=>e = .returned (.int .u32 (rotl x 128 33554432))∧w=w':=by
 go_enter Tryd.func101, Tryd.ntmps101
 go_wp2
 go_ret
 exact ⟨rfl,rfl⟩
theorem wW {P:Program} {f:FuncId} {args:Array Value} {w:World} {v:Value} (h:Calls P f args w fun e w'=>e = .returned v∧w=w'):Calls P f args w fun e w''=>e = .returned v∧w''=w:=h.mono fun _ _ h=>⟨h.1,h.2.symm⟩
theorem Ab (p q m c:Nat) (b:List Int) (o:Nat) (w:World) (hb:bytes b) (hm:4≤m) (h0:w.cell? ⟨p,q,none⟩=some (.int .u8 (b.getD o 0))) (h1:w.cell? ⟨p,q+1,none⟩=some (.int .u8 (b.getD (o+1) 0))) (h2:w.cell? ⟨p,q+2,none⟩=some (.int .u8 (b.getD (o+2) 0))) (h3:w.cell? ⟨p,q+3,none⟩=some (.int .u8 (b.getD (o+3) 0))) :
  Calls Tryd.prog 97 #[.slice (some ⟨p,q,none⟩) m c] w fun e w'=>e = .returned (.int .u32 (word b o))∧∃ k,w'=w.drewN k:=by
 obtain ⟨b00,b01⟩:=bytes_at hb o
 obtain ⟨b10,b11⟩:=bytes_at hb (o+1)
 obtain ⟨b20,b21⟩:=bytes_at hb (o+2)
 obtain ⟨b30,b31⟩:=bytes_at hb (o+3)
 have hw:word b o=bits .or .u32 (bits .or .u32 (bits .or .u32 (b.getD o 0) (b.getD (o+1) 0 * 256)) (b.getD (o+2) 0 * 65536)) (b.getD (o+3) 0 * 16777216):=rfl
 have HW:=acD hw
 have m0:(0:Int) < m:=by omega
 have m1:(1:Int) < m:=by omega
 have m2:(2:Int) < m:=by omega
 have m3:(3:Int) < m:=by omega
 clear hw hb
 generalize b.getD o 0=x0 at h0 b00 b01 HW
 generalize b.getD (o+1) 0=x1 at h1 b10 b11 HW
 generalize b.getD (o+2) 0=x2 at h2 b20 b21 HW
 generalize b.getD (o+3) 0=x3 at h3 b30 b31 HW
 go_enter Tryd.func97, Tryd.ntmps97
 go_wp2_with fail
 go_quiet (fail)
 go_wp2_with fail
 go_ret
 exact ⟨by rw [HW.out];rfl,_,rfl⟩
end Go.Proofs.YthdgbgleklkaiaaDoor.Ch
namespace Go.Proofs.YthdgbgleklkaiaaDoor.Ch
open Go.RowKit
theorem EM (p:Nat) (s:List Int) (a b c d:Nat) (w:World) (hp:w.heap[p]? = some (.cells (arr .u32 s) 143 (0,0))) (hl:s.length=16) (ha:a < 16) (hb:b < 16) (hc:c < 16) (hd:d < 16) :
  Calls Tryd.prog 98 #[.pointer (some ⟨p,0,none⟩), .int .i64 (a:Int), .int .i64 (b:Int), .int .i64 (c:Int), .int .i64 (d:Int)] w fun e w'=>e = .returned (.tuple #[])∧w'.heap[p]? = some (.cells (arr .u32 (quarter s a b c d)) 143 (0,0))∧Kept (fun x=>x=p) w w':=by
 obtain ⟨qf,hqf⟩:∃ qf,qf=quarter s a b c d:=⟨_,rfl⟩
 have HQF:=acD hqf
 have ia:(a:Int) < 16:=by omega
 have ib:(b:Int) < 16:=by omega
 have ic:(c:Int) < 16:=by omega
 have id:(d:Int) < 16:=by omega
 have K0:=acD (Kept.refl (fun x=>x=p) w)
 have L0:=acD hl
 have H0:=acD hp
 rw [← hqf]
 clear hqf hl hp
 obtain ⟨w0,hw0⟩:∃ w0,w0=w:=⟨_,rfl⟩
 rw [← hw0] at K0 H0 ⊢
 obtain ⟨s0,hs0⟩:∃ s0,s0=s:=⟨_,rfl⟩
 rw [← hs0] at H0 L0
 have bQ:=acD hs0
 have HW0:=acD hw0
 clear hs0 hw0
 go_enter Tryd.func98, Tryd.ntmps98
 obtain ⟨s1,hs1⟩:∃ t,t=qa s0 a b:=⟨_,rfl⟩
 have x0':=aI H0.out a (by rw [L0.out];exact ha)
 have y0':=aI H0.out b (by rw [L0.out];exact hb)
 have f0:=aC H0.out a
 have hn0:∀ v,v=add (s0.getD a 0) (s0.getD b 0)→(w0.setCell ⟨p,a,none⟩ (.int .u32 v)).heap[p]? = some (.cells (arr .u32 s1) 143 (0,0)):=by
  rintro v rfl
  rw [bI H0.out,hs1]
  rfl
 have L1:Hid (s1.length=16):=acD (by rw [hs1];simp only [zQ];exact L0.out)
 have iO:=acD hs1
 have HN0:=acD hn0
 have KK0:=acD (fun v=>(K0.out.at a v).drew)
 clear hs1 hn0 H0 K0
 generalize s0.getD a 0=x0 at x0' HN0
 generalize s0.getD b 0=y0 at y0' HN0
 go_wp2_with fail
 refine wp_region_still_tail 15 (by kernel_rfl) (by kernel_rfl) ?_
 simp only [acF,acG,acH,acI]
 repeat still_step
 refine wpStill_nil ?_
 change wpList _ _ _ _ _ w0.drew
 go_wp2_with fail
 have H1:Hid ((w0.setCell ⟨p,a,none⟩ (.int .u32 ((x0+y0) % 4294967296))).drew.heap[p]? = some (.cells (arr .u32 s1) 143 (0,0))):=acD (HN0.out _ (by first|rfl|(unfold add;rfl)))
 have K1:=acD (KK0.out (.int .u32 ((x0+y0) % 4294967296)))
 clear HN0 KK0 x0' y0' f0
 generalize (w0.setCell ⟨p,a,none⟩ (.int .u32 ((x0+y0) % 4294967296))).drew=w1 at H1 K1 ⊢
 obtain ⟨s2,hs2⟩:∃ t,t=qx s1 d a 65536 65536:=⟨_,rfl⟩
 have x1':=aI H1.out d (by rw [L1.out];exact hd)
 have y1':=aI H1.out a (by rw [L1.out];exact ha)
 have f1:=aC H1.out d
 have hn1:∀ v,v=rotl (bits .xor .u32 (s1.getD d 0) (s1.getD a 0)) 65536 65536→(w1.setCell ⟨p,d,none⟩ (.int .u32 v)).heap[p]? = some (.cells (arr .u32 s2) 143 (0,0)):=by
  rintro v rfl
  rw [bI H1.out,hs2]
  rfl
 have L2:Hid (s2.length=16):=acD (by rw [hs2];simp only [zP];exact L1.out)
 have HS2:=acD hs2
 have HN1:=acD hn1
 have KK1:=acD (fun v=>(K1.out.at d v).drew)
 clear hs2 hn1 H1 K1
 generalize s1.getD d 0=x1 at x1' HN1
 generalize s1.getD a 0=y1 at y1' HN1
 go_wp2_with fail
 refine wp_region_still_tail 16 (by kernel_rfl) (by kernel_rfl) ?_
 simp only [acF,acG,acH,acI]
 repeat still_step
 (refine wpStill_step (fun K hK=>?_);go_simp;refine Exists.intro _ (And.intro (wW (rol_16 _ _)) ?_);refine hK _ ?_;clear hK K)
 repeat still_step
 refine wpStill_nil ?_
 change wpList _ _ _ _ _ w1.drew
 go_wp2_with fail
 have H2:Hid ((w1.setCell ⟨p,d,none⟩ (.int .u32 (rotl (bits .xor .u32 x1 y1) 65536 65536))).drew.heap[p]? = some (.cells (arr .u32 s2) 143 (0,0))):=acD (HN1.out _ (by first|rfl|(unfold add;rfl)))
 have K2:=acD (KK1.out (.int .u32 (rotl (bits .xor .u32 x1 y1) 65536 65536)))
 clear HN1 KK1 x1' y1' f1
 generalize (w1.setCell ⟨p,d,none⟩ (.int .u32 (rotl (bits .xor .u32 x1 y1) 65536 65536))).drew=w2 at H2 K2 ⊢
 obtain ⟨s3,hs3⟩:∃ t,t=qa s2 c d:=⟨_,rfl⟩
 have x2':=aI H2.out c (by rw [L2.out];exact hc)
 have y2':=aI H2.out d (by rw [L2.out];exact hd)
 have f2:=aC H2.out c
 have hn2:∀ v,v=add (s2.getD c 0) (s2.getD d 0)→(w2.setCell ⟨p,c,none⟩ (.int .u32 v)).heap[p]? = some (.cells (arr .u32 s3) 143 (0,0)):=by
  rintro v rfl
  rw [bI H2.out,hs3]
  rfl
 have L3:Hid (s3.length=16):=acD (by rw [hs3];simp only [zQ];exact L2.out)
 have yR:=acD hs3
 have HN2:=acD hn2
 have KK2:=acD (fun v=>(K2.out.at c v).drew)
 clear hs3 hn2 H2 K2
 generalize s2.getD c 0=x2 at x2' HN2
 generalize s2.getD d 0=y2 at y2' HN2
 go_wp2_with fail
 refine wp_region_still_tail 15 (by kernel_rfl) (by kernel_rfl) ?_
 simp only [acF,acG,acH,acI]
 repeat still_step
 refine wpStill_nil ?_
 change wpList _ _ _ _ _ w2.drew
 go_wp2_with fail
 have H3:Hid ((w2.setCell ⟨p,c,none⟩ (.int .u32 ((x2+y2) % 4294967296))).drew.heap[p]? = some (.cells (arr .u32 s3) 143 (0,0))):=acD (HN2.out _ (by first|rfl|(unfold add;rfl)))
 have K3:=acD (KK2.out (.int .u32 ((x2+y2) % 4294967296)))
 clear HN2 KK2 x2' y2' f2
 generalize (w2.setCell ⟨p,c,none⟩ (.int .u32 ((x2+y2) % 4294967296))).drew=w3 at H3 K3 ⊢
 obtain ⟨s4,hs4⟩:∃ t,t=qx s3 b c 4096 1048576:=⟨_,rfl⟩
 have x3':=aI H3.out b (by rw [L3.out];exact hb)
 have y3':=aI H3.out c (by rw [L3.out];exact hc)
 have f3:=aC H3.out b
 have hn3:∀ v,v=rotl (bits .xor .u32 (s3.getD b 0) (s3.getD c 0)) 4096 1048576→(w3.setCell ⟨p,b,none⟩ (.int .u32 v)).heap[p]? = some (.cells (arr .u32 s4) 143 (0,0)):=by
  rintro v rfl
  rw [bI H3.out,hs4]
  rfl
 have L4:Hid (s4.length=16):=acD (by rw [hs4];simp only [zP];exact L3.out)
 have Cv:=acD hs4
 have HN3:=acD hn3
 have KK3:=acD (fun v=>(K3.out.at b v).drew)
 clear hs4 hn3 H3 K3
 generalize s3.getD b 0=x3 at x3' HN3
 generalize s3.getD c 0=y3 at y3' HN3
 go_wp2_with fail
 refine wp_region_still_tail 16 (by kernel_rfl) (by kernel_rfl) ?_
 simp only [acF,acG,acH,acI]
 repeat still_step
 (refine wpStill_step (fun K hK=>?_);go_simp;refine Exists.intro _ (And.intro (wW (rol_12 _ _)) ?_);refine hK _ ?_;clear hK K)
 repeat still_step
 refine wpStill_nil ?_
 change wpList _ _ _ _ _ w3.drew
 go_wp2_with fail
 have H4:Hid ((w3.setCell ⟨p,b,none⟩ (.int .u32 (rotl (bits .xor .u32 x3 y3) 4096 1048576))).drew.heap[p]? = some (.cells (arr .u32 s4) 143 (0,0))):=acD (HN3.out _ (by first|rfl|(unfold add;rfl)))
 have K4:=acD (KK3.out (.int .u32 (rotl (bits .xor .u32 x3 y3) 4096 1048576)))
 clear HN3 KK3 x3' y3' f3
 generalize (w3.setCell ⟨p,b,none⟩ (.int .u32 (rotl (bits .xor .u32 x3 y3) 4096 1048576))).drew=w4 at H4 K4 ⊢
 obtain ⟨s5,hs5⟩:∃ t,t=qa s4 a b:=⟨_,rfl⟩
 have x4':=aI H4.out a (by rw [L4.out];exact ha)
 have y4':=aI H4.out b (by rw [L4.out];exact hb)
 have f4:=aC H4.out a
 have hn4:∀ v,v=add (s4.getD a 0) (s4.getD b 0)→(w4.setCell ⟨p,a,none⟩ (.int .u32 v)).heap[p]? = some (.cells (arr .u32 s5) 143 (0,0)):=by
  rintro v rfl
  rw [bI H4.out,hs5]
  rfl
 have L5:Hid (s5.length=16):=acD (by rw [hs5];simp only [zQ];exact L4.out)
 have UA:=acD hs5
 have HN4:=acD hn4
 have KK4:=acD (fun v=>(K4.out.at a v).drew)
 clear hs5 hn4 H4 K4
 generalize s4.getD a 0=x4 at x4' HN4
 generalize s4.getD b 0=y4 at y4' HN4
 go_wp2_with fail
 refine wp_region_still_tail 15 (by kernel_rfl) (by kernel_rfl) ?_
 simp only [acF,acG,acH,acI]
 repeat still_step
 refine wpStill_nil ?_
 change wpList _ _ _ _ _ w4.drew
 go_wp2_with fail
 have H5:Hid ((w4.setCell ⟨p,a,none⟩ (.int .u32 ((x4+y4) % 4294967296))).drew.heap[p]? = some (.cells (arr .u32 s5) 143 (0,0))):=acD (HN4.out _ (by first|rfl|(unfold add;rfl)))
 have K5:=acD (KK4.out (.int .u32 ((x4+y4) % 4294967296)))
 clear HN4 KK4 x4' y4' f4
 generalize (w4.setCell ⟨p,a,none⟩ (.int .u32 ((x4+y4) % 4294967296))).drew=w5 at H5 K5 ⊢
 obtain ⟨s6,hs6⟩:∃ t,t=qx s5 d a 256 16777216:=⟨_,rfl⟩
 have x5':=aI H5.out d (by rw [L5.out];exact hd)
 have y5':=aI H5.out a (by rw [L5.out];exact ha)
 have f5:=aC H5.out d
 have hn5:∀ v,v=rotl (bits .xor .u32 (s5.getD d 0) (s5.getD a 0)) 256 16777216→(w5.setCell ⟨p,d,none⟩ (.int .u32 v)).heap[p]? = some (.cells (arr .u32 s6) 143 (0,0)):=by
  rintro v rfl
  rw [bI H5.out,hs6]
  rfl
 have L6:Hid (s6.length=16):=acD (by rw [hs6];simp only [zP];exact L5.out)
 have HS6:=acD hs6
 have HN5:=acD hn5
 have KK5:=acD (fun v=>(K5.out.at d v).drew)
 clear hs6 hn5 H5 K5
 generalize s5.getD d 0=x5 at x5' HN5
 generalize s5.getD a 0=y5 at y5' HN5
 go_wp2_with fail
 refine wp_region_still_tail 16 (by kernel_rfl) (by kernel_rfl) ?_
 simp only [acF,acG,acH,acI]
 repeat still_step
 (refine wpStill_step (fun K hK=>?_);go_simp;refine Exists.intro _ (And.intro (wW (rol_8 _ _)) ?_);refine hK _ ?_;clear hK K)
 repeat still_step
 refine wpStill_nil ?_
 change wpList _ _ _ _ _ w5.drew
 go_wp2_with fail
 have H6:Hid ((w5.setCell ⟨p,d,none⟩ (.int .u32 (rotl (bits .xor .u32 x5 y5) 256 16777216))).drew.heap[p]? = some (.cells (arr .u32 s6) 143 (0,0))):=acD (HN5.out _ (by first|rfl|(unfold add;rfl)))
 have K6:=acD (KK5.out (.int .u32 (rotl (bits .xor .u32 x5 y5) 256 16777216)))
 clear HN5 KK5 x5' y5' f5
 generalize (w5.setCell ⟨p,d,none⟩ (.int .u32 (rotl (bits .xor .u32 x5 y5) 256 16777216))).drew=w6 at H6 K6 ⊢
 obtain ⟨s7,hs7⟩:∃ t,t=qa s6 c d:=⟨_,rfl⟩
 have x6':=aI H6.out c (by rw [L6.out];exact hc)
 have y6':=aI H6.out d (by rw [L6.out];exact hd)
 have f6:=aC H6.out c
 have hn6:∀ v,v=add (s6.getD c 0) (s6.getD d 0)→(w6.setCell ⟨p,c,none⟩ (.int .u32 v)).heap[p]? = some (.cells (arr .u32 s7) 143 (0,0)):=by
  rintro v rfl
  rw [bI H6.out,hs7]
  rfl
 have L7:Hid (s7.length=16):=acD (by rw [hs7];simp only [zQ];exact L6.out)
 have Ui:=acD hs7
 have HN6:=acD hn6
 have KK6:=acD (fun v=>(K6.out.at c v).drew)
 clear hs7 hn6 H6 K6
 generalize s6.getD c 0=x6 at x6' HN6
 generalize s6.getD d 0=y6 at y6' HN6
 go_wp2_with fail
 refine wp_region_still_tail 15 (by kernel_rfl) (by kernel_rfl) ?_
 simp only [acF,acG,acH,acI]
 repeat still_step
 refine wpStill_nil ?_
 change wpList _ _ _ _ _ w6.drew
 go_wp2_with fail
 have H7:Hid ((w6.setCell ⟨p,c,none⟩ (.int .u32 ((x6+y6) % 4294967296))).drew.heap[p]? = some (.cells (arr .u32 s7) 143 (0,0))):=acD (HN6.out _ (by first|rfl|(unfold add;rfl)))
 have K7:=acD (KK6.out (.int .u32 ((x6+y6) % 4294967296)))
 clear HN6 KK6 x6' y6' f6
 generalize (w6.setCell ⟨p,c,none⟩ (.int .u32 ((x6+y6) % 4294967296))).drew=w7 at H7 K7 ⊢
 obtain ⟨s8,hs8⟩:∃ t,t=qx s7 b c 128 33554432:=⟨_,rfl⟩
 have x7':=aI H7.out b (by rw [L7.out];exact hb)
 have y7':=aI H7.out c (by rw [L7.out];exact hc)
 have f7:=aC H7.out b
 have hn7:∀ v,v=rotl (bits .xor .u32 (s7.getD b 0) (s7.getD c 0)) 128 33554432→(w7.setCell ⟨p,b,none⟩ (.int .u32 v)).heap[p]? = some (.cells (arr .u32 s8) 143 (0,0)):=by
  rintro v rfl
  rw [bI H7.out,hs8]
  rfl
 have L8:Hid (s8.length=16):=acD (by rw [hs8];simp only [zP];exact L7.out)
 have Uz:=acD hs8
 have HN7:=acD hn7
 have KK7:=acD (fun v=>(K7.out.at b v).drew)
 clear hs8 hn7 H7 K7
 generalize s7.getD b 0=x7 at x7' HN7
 generalize s7.getD c 0=y7 at y7' HN7
 go_wp2_with fail
 refine wp_region_still_tail 16 (by kernel_rfl) (by kernel_rfl) ?_
 simp only [acF,acG,acH,acI]
 repeat still_step
 (refine wpStill_step (fun K hK=>?_);go_simp;refine Exists.intro _ (And.intro (wW (rol_7 _ _)) ?_);refine hK _ ?_;clear hK K)
 repeat still_step
 refine wpStill_nil ?_
 change wpList _ _ _ _ _ w7.drew
 go_wp2_with fail
 have H8:Hid ((w7.setCell ⟨p,b,none⟩ (.int .u32 (rotl (bits .xor .u32 x7 y7) 128 33554432))).drew.heap[p]? = some (.cells (arr .u32 s8) 143 (0,0))):=acD (HN7.out _ (by first|rfl|(unfold add;rfl)))
 have K8:=acD (KK7.out (.int .u32 (rotl (bits .xor .u32 x7 y7) 128 33554432)))
 clear HN7 KK7 x7' y7' f7
 generalize (w7.setCell ⟨p,b,none⟩ (.int .u32 (rotl (bits .xor .u32 x7 y7) 128 33554432))).drew=w8 at H8 K8 ⊢
 go_end0
 have e:s8=qf:=by rw [HQF.out,Uz.out,Ui.out,HS6.out,UA.out,Cv.out,yR.out,HS2.out,iO.out,bQ.out];rfl
 rw [e] at H8
 exact ⟨rfl,H8.out,K8.out⟩
end Go.Proofs.YthdgbgleklkaiaaDoor.Ch
