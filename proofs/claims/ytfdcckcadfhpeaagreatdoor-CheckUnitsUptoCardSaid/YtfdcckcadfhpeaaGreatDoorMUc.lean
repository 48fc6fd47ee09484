/- Parts of the proof (part 3): what the rows' text needs of the texts that lead to it. -/
import Derived.Test.YtfdcckcadfhpeaaGreatDoorMUb
set_option linter.unusedVariables false
set_option linter.unusedSimpArgs false
set_option linter.unusedSectionVars false
set_option maxRecDepth 100000
namespace Go.Proofs.YtfdcckcadfhpeaaGreatDoor
open Go Go.Sl
set_option maxHeartbeats 4000000
theorem pow_split {s:Nat} (hs:s≤32):∃ Q:Int,((2 ^ s:Nat):Int)*Q=4294967296∧0<Q∧0<((2 ^ s:Nat):Int):=by
 refine ⟨((2 ^ (32 - s):Nat):Int),?_,?_,?_⟩
 · rw [←Int.natCast_mul,←Nat.pow_add,Nat.add_sub_cancel' hs];decide
 · have:0<2 ^ (32 - s):=Nat.pow_pos (by decide)
   omega
 have:0<2 ^ s:=Nat.pow_pos (by decide)
 omega
theorem shl_parts {X:Int} {s:Nat} (hs:s≤32) (hX:0≤X∧X<4294967296):(X*((2 ^ s:Nat):Int)) % 4294967296 % ((2 ^ s:Nat):Int)=0∧0≤X*((2 ^ s:Nat):Int) / 4294967296∧X*((2 ^ s:Nat):Int) / 4294967296<((2 ^ s:Nat):Int)∧0≤X*((2 ^ s:Nat):Int)∧X*((2 ^ s:Nat):Int)<18446744073709551616:=by
 obtain ⟨Q,h1,h2,h3⟩:=pow_split hs
 generalize ((2 ^ s:Nat):Int)=P at *
 have hn:=Int.mul_nonneg hX.1 (Int.le_of_lt h3)
 have hlt:=Int.mul_lt_mul_of_pos_right hX.2 h3
 have hP:P≤4294967296:=by
  have:=Int.mul_le_mul_of_nonneg_left (show 1≤Q by omega) (Int.le_of_lt h3)
  omega
 refine ⟨?_,Int.ediv_nonneg hn (by decide),Int.ediv_lt_of_lt_mul (by decide) (by rw [Int.mul_comm P];exact hlt),hn,by omega⟩
 rw [Int.emod_emod_of_dvd _ ⟨Q,h1.symm⟩]
 exact Int.mul_emod_left X P
theorem shl_next {la r:List U32} {i d:Nat} {P hi lo:Int} (hk:i+d+1<r.length) (hz:lg r (i+d+1)=0) (hv:valB r=pb d*P*valB (la.take i)) (hlo:lo=lg r (i+d)+lg la i*P % 4294967296) (hhi:hi=lg la i*P / 4294967296) :
 valB ((r.set (i+d) ⟨lo⟩).set (i+d+1) ⟨hi⟩)=pb d*P*valB (la.take (i+1)):=by
 rw [valB_set _ _ _ (by rw [List.length_set];exact hk),valB_set r _ _ (by omega),lg_set_ne (by omega),hz,bval_step,hv,hlo,hhi,pb_succ,pb_add]
 have h1:=bcarry (pb i*pb d) (lg la i*P)
 show pb d*P*valB (la.take i)+pb i*pb d*(lg r (i+d)+lg la i*P % 4294967296 - lg r (i+d))+4294967296*(pb i*pb d)*(lg la i*P / 4294967296 - 0)=_
 have e1:lg r (i+d)+lg la i*P % 4294967296 - lg r (i+d)=lg la i*P % 4294967296:=by omega
 have e2:pb d*P*(pb i*lg la i)=pb i*pb d*(lg la i*P):=by
  rw [Int.mul_comm (pb i) (pb d),Int.mul_assoc,Int.mul_assoc,Int.mul_comm (lg la i) P,Int.mul_left_comm P]
 rw [e1,Int.sub_zero,Int.mul_add,e2,←h1]
 omega
theorem shr_part {A0 A1:Int} {s:Nat} (hs:s≤32) (h0:0≤A0∧A0<4294967296) (h1:0≤A1∧A1<4294967296):((2 ^ s:Nat):Int)*(((A1*4294967296+A0) / ((2 ^ s:Nat):Int)) % 4294967296)=4294967296*(A1 % ((2 ^ s:Nat):Int))+A0 - A0 % ((2 ^ s:Nat):Int):=by
 obtain ⟨Q,hQ,hQ0,hP⟩:=pow_split hs
 generalize ((2 ^ s:Nat):Int)=P at *
 have e0:=Int.emod_add_mul_ediv A0 P
 have e1:=Int.emod_add_mul_ediv A1 P
 have n0:=Int.emod_nonneg A0 (Int.ne_of_gt hP)
 have l0:=Int.emod_lt_of_pos A0 hP
 have n1:=Int.emod_nonneg A1 (Int.ne_of_gt hP)
 have l1:=Int.emod_lt_of_pos A1 hP
 have q0:=Int.ediv_nonneg h0.1 (Int.le_of_lt hP)
 have q0':A0 / P<Q:=Int.ediv_lt_of_lt_mul hP (by rw [Int.mul_comm];omega)
 generalize A0 % P=r0 at *
 generalize A1 % P=r1 at *
 generalize A0 / P=y0 at *
 generalize A1 / P=y1 at *
 have e2:A1*4294967296+A0=r0+P*(A1*Q+y0):=by
  rw [Int.mul_add,Int.mul_left_comm P,hQ];omega
 have e3:(A1*4294967296+A0) / P=A1*Q+y0:=by
  rw [e2,Int.add_mul_ediv_left _ _ (Int.ne_of_gt hP),Int.ediv_eq_zero_of_lt n0 l0,Int.zero_add]
 have e4:A1*Q+y0=r1*Q+y0+4294967296*y1:=by
  rw [←e1,Int.add_mul,←hQ,Int.mul_right_comm P Q y1,Int.mul_assoc P y1 Q];omega
 have f1:=Int.mul_nonneg n1 (Int.le_of_lt hQ0)
 have f2:=Int.mul_le_mul_of_nonneg_right (show r1+1≤P by omega) (Int.le_of_lt hQ0)
 rw [Int.add_mul,Int.one_mul,hQ] at f2
 have e5:(A1*Q+y0) % 4294967296=r1*Q+y0:=by
  rw [e4,Int.add_mul_emod_self_left,Int.emod_eq_of_lt (by omega) (by omega)]
 rw [e3,e5,Int.mul_add,Int.mul_left_comm P r1 Q,hQ]
 omega
theorem shr_next {m r:List U32} {i:Nat} {P out ρ:Int} (hi:i<r.length) (hv:P*valB (r.take i)+ρ=valB (m.take i)+pb i*(lg m i % P)) (ho:P*out=4294967296*(lg m (i+1) % P)+lg m i - lg m i % P) :
 P*valB ((r.set i ⟨out⟩).take (i+1))+ρ=valB (m.take (i+1))+pb (i+1)*(lg m (i+1) % P):=by
 rw [bval_step (r.set i _),bval_step m,lg_set hi,List.take_set_of_le (Nat.le_refl i),pb_succ,Int.mul_add,Int.mul_left_comm P,ho,Int.mul_sub,Int.mul_add,Int.mul_left_comm (pb i) 4294967296]
 rw [Int.mul_assoc]
 omega
theorem shr_end {m r:List U32} {P:Int} (hP:0<P) (hn:r.length=m.length) (hv:P*valB (r.take m.length)+lg m 0 % P=valB (m.take m.length)+pb m.length*(lg m m.length % P)):valB r=valB m / P:=by
 rw [take_all (by omega),take_all (Nat.le_refl _),lg_end (Nat.le_refl _),Int.zero_emod,Int.mul_zero,Int.add_zero] at hv
 rw [←hv,Int.add_comm,Int.add_mul_ediv_left _ _ (Int.ne_of_gt hP),Int.ediv_eq_zero_of_lt (Int.emod_nonneg _ (Int.ne_of_gt hP)) (Int.emod_lt_of_pos _ hP),Int.zero_add]
theorem pow_room {x y:Int} {s:Nat} (hs:s≤32) (hx:x<((2 ^ s:Nat):Int)) (h0:0≤x) (hy:0≤y∧y<4294967296) (hm:y % ((2 ^ s:Nat):Int)=0):0≤x+y∧x+y<4294967296:=by
 obtain ⟨Q,hQ,hQ0,hP⟩:=pow_split hs
 generalize ((2 ^ s:Nat):Int)=P at *
 refine ⟨by omega,?_⟩
 have h1:=Int.emod_add_mul_ediv y P
 rw [hm,Int.zero_add] at h1
 have h2:y / P<Q:=Int.ediv_lt_of_lt_mul hP (by rw [Int.mul_comm];omega)
 have h3:=Int.mul_le_mul_of_nonneg_left (show y / P+1≤Q by omega) (Int.le_of_lt hP)
 rw [Int.mul_add,Int.mul_one,hQ,h1] at h3
 omega
attribute [local irreducible] valB pb cmpZ
theorem c250 (G:Imm) (a:Option Addr) (ca:Nat) (la:List U32) (d s:Nat) (ha:Arr G a la) (da:Lims la) (h1:la.length≤1073741824) (hs:s<32) (hd:d≤1000) :
 Does Tryz.prog 250 [.slice a la.length ca,.int .i64 ((32*d+s:Nat):Int)] G [] (fun v G' Ho=>∃ r,v=.tuple #[r,.int .i64 0]∧Nat32 G' r (pb d*((2 ^ s:Nat):Int)*valB la) (la.length+d+1)∧Ho=[]):=by
 refine Does.enter Tryz.func250 rfl Tryz.ntmps250 rfl (fun w=>?_)
 have ed:((32*d+s:Nat):Int) / 32=(d:Int):=by omega
 have es:((32*d+s:Nat):Int) % 32=(s:Int):=by omega
 have hP:0<((2 ^ s:Nat):Int):=(pow_split (by omega)).choose_spec.2.2
 refine Wc.gl 31 [0,0] ?_
 refine Wl.q rfl (Qy.quoP rfl rfl (by omega)) ?_
 refine Wl.ll0 2 [] ?_
 refine Wl.make (α:=U32) 0 rfl T.sl123 T.el215 rfl rfl (by omega) (by omega) (fun b1=>?_)
 refine Wl.gl 6 [] ?_
 refine Wl.q rfl (Qy.urem rfl rfl (by omega)) ?_
 refine Wl.gc 12 [] ?_
 obtain ⟨N,hN⟩:∃ N,N=la.length+d+1:=⟨_,rfl⟩
 have hM:((la.length:Int)+((32*d+s:Nat):Int) / 32+1).toNat=N:=by omega
 rw [hM]
 have hown:∀ r:List U32,r.length=N→OwnA (some ⟨b1,0,none⟩) N r []:=fun r hr=>.inr ⟨b1,rfl,by rw [hr];rfl,by omega,by simp only [maxLen];omega⟩
 refine Wc.re 6 rfl (show _=Value.slice (some ⟨b1,0,none⟩) (List.replicate N (default:U32)).length N by rw [List.length_replicate]) ?_
 refine Wc.re 7 rfl (show _=Value.int .i64 (s:Int) by rw [es]) ?_
 refine Wc.loop (ι:=Nat×List U32) (fun (i,r)=>([(26,.int .i64 (i:Int)),(6,.slice (some ⟨b1,0,none⟩) r.length N),(7,.int .i64 (↑s:Int)),(25,.int .i64 (la.length:Int)),(24,.slice a (List.length la) ca),(5,.int .i64 0),(4,.slice none 0 0),(1,.int .i64 (↑(32*d+s):Int))],[(0,some b1,Row 215 r [])])) (fun (i,r)=>i≤la.length∧r.length=N∧Lims r∧valB r=pb d*((2 ^ s:Nat):Int)*valB (la.take i)∧lg r (i+d)<((2 ^ s:Nat):Int)∧∀ k,i+d<k→lg r k=0) (fun (i,r)=>la.length - i) ((0,List.replicate N (default:U32))) (⟨Nat.zero_le _,List.length_replicate,Lims.zeros N,by rw [List.take_zero,valB_nil,Int.mul_zero];exact valB_replicate N,by rw [lg_zeros];exact hP,fun k _=>lg_zeros N k⟩) ⟨rfl,rfl,rfl,rfl,rfl,rfl,rfl,rfl,trivial⟩ ⟨rfl,trivial⟩ (fun ⟨i,r⟩=>fun hk=>?_)
 obtain ⟨hi,hrN,hdr,hv,hlow,hz⟩:=hk
 have hor:=hown r hrN
 rcases Nat.lt_or_ge i la.length with hia | hia
 · have hx:0≤(la[((i:Nat):Int).toNat]?.getD default).v∧(la[((i:Nat):Int).toNat]?.getD default).v<4294967296:=lg_lt da hia
   have ekk:((i:Int)+((32*d+s:Nat):Int) / 32).toNat=i+d:=by omega
   have hpt:=shl_parts (s:=s) (by omega) hx
   refine Wc.gl 14 [1] ?_
   refine Wl.q rfl (Qy.at (α:=U32) T.sl123 rfl rfl (by assumption) (by omega)) ?_
   refine Wl.q rfl (Qy.loadG T.one215 rfl (Arr.cell (by assumption) (by omega) 0 rfl rfl)) ?_
   refine Wl.gl 7 [] ?_
   refine Wl.q rfl (Qy.conv64 rfl T.u214 rfl (by omega)) ?_
   refine Wl.q rfl (Qy.move rfl) ?_
   refine Wl.q rfl (Qy.shlV rfl rfl (by omega) (by omega)) ?_
   refine Wl.gl 8 [] ?_
   refine Wl.q rfl (Qy.quoP rfl rfl (by omega)) ?_
   refine Wl.q rfl (Qy.add rfl rfl (by omega)) ?_
   refine Wl.q rfl (Qy.indexAddrO (α:=U32) T.sl123 rfl rfl (by assumption) (by omega)) ?_
   refine Wl.q rfl (Qy.loadO 0 0 T.one215 rfl rfl (by assumption) (by omega) rfl rfl) ?_
   refine Wl.q rfl (Qy.move rfl) ?_
   refine Wl.q rfl (Qy.trunc32 rfl T.u215 rfl) ?_
   refine Wl.q rfl (Qy.orW rfl rfl) ?_
   refine Wl.q rfl (Qy.indexAddrO (α:=U32) T.sl123 rfl rfl (by assumption) (by omega)) ?_
   refine Wl.setO (z:=_) 0 T.size215 rfl rfl rfl (by assumption) (by omega) rfl (fun ho1=>?_)
   refine Wl.gl 6 [] ?_
   refine Wl.q rfl (Qy.quoP rfl rfl (by omega)) ?_
   refine Wl.ll0 2 [] ?_
   refine Wl.q rfl (Qy.indexAddrO (α:=U32) T.sl123 rfl rfl (by assumption) (by omega)) ?_
   obtain ⟨r1,hr1⟩:∃ r1,r1=r.set (i+d) (⟨lg r (i+d)+(la[((i:Nat):Int).toNat]?.getD default).v*((2 ^ s:Nat):Int) % 4294967296⟩:U32):=⟨_,rfl⟩
   have hk0:=lg_rng hdr (i+d)
   have hlo:bits BinOp.or IntKind.u32 (r[((i:Int)+((32*d+s:Nat):Int) / 32).toNat]?.getD default).v ((la[((i:Nat):Int).toNat]?.getD default).v*((2 ^ s:Nat):Int) % 4294967296)=lg r (i+d)+(la[((i:Nat):Int).toNat]?.getD default).v*((2 ^ s:Nat):Int) % 4294967296:=by
    rw [ekk]
    exact or_part_u32 _ _ s ⟨hk0.1,hlow⟩ (mod32 _) (by omega) hpt.1
   have hr1N:r1.length=N:=by rw [hr1,List.length_set];exact hrN
   have hsum:=pow_room (s:=s) (by omega) hlow hk0.1 (mod32 _) hpt.1
   have hd1:Lims r1:=by rw [hr1];exact lims_set hdr _ hsum
   have hz1:lg r1 (i+d+1)=0:=by rw [hr1,lg_set_ne (by omega)];exact hz _ (by omega)
   have hor1:=hown r1 hr1N
   refine Wl.reH 0 (Row 215 r1 []) rfl ?_ ?_
   · show Row 215 (r.set ((i:Int)+((32*d+s:Nat):Int) / 32).toNat ⟨bits BinOp.or IntKind.u32 (r[((i:Int)+((32*d+s:Nat):Int) / 32).toNat]?.getD default).v ((la[((i:Nat):Int).toNat]?.getD default).v*((2 ^ s:Nat):Int) % 4294967296)⟩) []=_
     rw [hlo,ekk,hr1]
   skip
   refine Wl.q rfl (Qy.loadO (m:=(i:Int)+((32*d+s:Nat):Int) / 32+1) (c:=N) (xs:=r1) (junk:=[]) 0 0 T.one215 rfl rfl hor1 (by omega) rfl rfl) ?_
   refine Wl.q rfl (Qy.move rfl) ?_
   refine Wl.q rfl (Qy.shr32 rfl rfl (by omega)) ?_
   refine Wl.q rfl (Qy.conv32 rfl T.u215 rfl (by omega)) ?_
   refine Wl.q rfl (Qy.orW rfl rfl) ?_
   refine Wl.q rfl (Qy.indexAddrO (α:=U32) T.sl123 rfl rfl (by assumption) (by omega)) ?_
   refine Wl.setO (z:=_) 0 T.size215 rfl rfl rfl (by assumption) (by omega) rfl (fun ho2=>?_)
   refine Wl.ga 7 [] ?_
   have hhi:bits BinOp.or IntKind.u32 (r1[((i:Int)+((32*d+s:Nat):Int) / 32+1).toNat]?.getD default).v ((la[((i:Nat):Int).toNat]?.getD default).v*((2 ^ s:Nat):Int) / 4294967296)=(la[((i:Nat):Int).toNat]?.getD default).v*((2 ^ s:Nat):Int) / 4294967296:=by
    rw [show ((i:Int)+((32*d+s:Nat):Int) / 32+1).toNat=i+d+1 by omega,show (r1[i+d+1]?.getD default).v=0 by simpa only [lg,Int.toNat_natCast] using hz1]
    rw [or_part_u32 0 _ 0 (by decide) (by omega) (by decide) (Int.emod_one _),Int.zero_add]
   obtain ⟨r2,hr2⟩:∃ r2,r2=r1.set (i+d+1) (⟨(la[((i:Nat):Int).toNat]?.getD default).v*((2 ^ s:Nat):Int) / 4294967296⟩:U32):=⟨_,rfl⟩
   refine Ar.reH 0 (Row 215 r2 []) rfl ?_ ?_
   · show Row 215 (r1.set ((i:Int)+((32*d+s:Nat):Int) / 32+1).toNat ⟨bits BinOp.or IntKind.u32 (r1[((i:Int)+((32*d+s:Nat):Int) / 32+1).toNat]?.getD default).v ((la[((i:Nat):Int).toNat]?.getD default).v*((2 ^ s:Nat):Int) / 4294967296)⟩) []=_
     rw [hhi,show ((i:Int)+((32*d+s:Nat):Int) / 32+1).toNat=i+d+1 by omega,hr2]
   have hr2N:r2.length=N:=by rw [hr2,List.length_set];exact hr1N
   refine Ar.re 6 rfl (show _=Value.slice (some ⟨b1,0,none⟩) r2.length N by rw [hr2N,hrN]) ?_
   have hlt32:=(pow_split (s:=s) (by omega))
   refine Ar.again ((i+1,r2)) ?_ ?_ rfl ⟨rfl,rfl,rfl,rfl,rfl,rfl,rfl,rfl,trivial⟩ ⟨rfl,trivial⟩
   · refine ⟨by omega,hr2N,by rw [hr2];exact lims_set hd1 _ ⟨hpt.2.1,by omega⟩,?_,?_,?_⟩
     · rw [hr2,hr1]
       exact shl_next (by omega) (hz _ (by omega)) hv rfl rfl
     · rw [show i+1+d=i+d+1 by omega,hr2,lg_set (by omega)]
       exact hpt.2.2.1
     intro k hk
     rw [hr2,lg_set_ne (by omega),hr1,lg_set_ne (by omega)]
     exact hz k (by omega)
   show la.length - (i+1)<la.length - i
   omega
 rw [take_all hia] at hv
 refine Wc.gl 15 [0] ?_
 refine Wl.freezeRow 0 rfl hor (fun G9 hle9 hA=>?_)
 refine Wl.k 1 rfl (c181 _ _ _ _ (by assumption) (by omega) (by first | assumption | omega)) (fun v1 G1 Ho1 hle1 hp=>?_)
 obtain ⟨ta1,tm1,rfl,hta1,hte1,htr1,htl1,rfl,rfl⟩:=hp
 refine Wl.ga 5 [] ?_
 refine Ar.e2 ?_
 exact ⟨_,rfl,Nat32.of hta1 hte1 htr1 hdr hv (by omega),rfl⟩
theorem c252 (G:Imm) (a:Option Addr) (ca:Nat) (la:List U32) (s:Nat) (ha:Arr G a la) (da:Lims la) (h1:la.length≤1073741824) (hca:la.length≤ca) (hs:s<32) :
 Does Tryz.prog 252 [.slice a la.length ca,.int .i64 (s:Int)] G [] (fun v G' Ho=>∃ r,v=.tuple #[r,.int .i64 0]∧Nat32 G' r (valB la / ((2 ^ s:Nat):Int)) la.length∧Ho=[]):=by
 refine Does.enter Tryz.func252 rfl Tryz.ntmps252 rfl (fun w=>?_)
 have ed:(s:Int) / 32=0:=by omega
 have es:(s:Int) % 32=(s:Int):=by omega
 have hP:0<((2 ^ s:Nat):Int):=(pow_split (by omega)).choose_spec.2.2
 refine Wc.gl 19 [0] ?_
 refine Wl.k 0 rfl (c181 _ _ _ _ (by assumption) (by omega) (by first | assumption | omega)) (fun v1 G1 Ho1 hle1 hp=>?_)
 obtain ⟨ta1,tm1,rfl,hta1,hte1,htr1,htl1,rfl,rfl⟩:=hp
 refine Wl.gl 7 [] ?_
 refine Wl.q rfl (Qy.quoP rfl rfl (by omega)) ?_
 refine Wl.gc 5 [] ?_
 refine Wc.cond rfl (fun hc1=>?_) (fun hc1=>?_)
 refine Wc.ga 8 [] ?_
 refine Ar.e2 ?_
 rotate_left
 refine Wc.gl 6 [] ?_
 refine Wl.q rfl (Qy.quoP rfl rfl (by omega)) ?_
 refine Wl.q rfl (Qy.cutL T.sl123 rfl rfl (by omega) (by omega)) ?_
 refine Wl.gl 6 [] ?_
 refine Wl.q rfl (Qy.urem rfl rfl (by omega)) ?_
 refine Wl.gl 7 [] ?_
 refine Wl.make (α:=U32) 0 rfl T.sl123 T.el215 rfl rfl (by omega) (by omega) (fun b1=>?_)
 refine Wl.gc 12 [] ?_
 rotate_left
 · have hz:tm1=[]:=List.eq_nil_of_length_eq_zero (by omega)
   have hv0:valB la=0:=by rw [←trim_val hte1 htr1,hz,valB_nil]
   refine ⟨_,rfl,⟨none,[],rfl,Arr.nil _,Lims.nil,Top.nil,?_,Nat.zero_le _⟩,rfl⟩
   rw [hv0,Int.zero_ediv,valB_nil]
 have dm:=trim_lims hte1 da
 have hta2:Arr G1 (subA ta1 tm1.length 0 1) tm1:=by
  have h2:=barr_sub (c:=tm1.length) (sz:=1) hta1 tm1.length
  rw [take_all (Nat.le_refl _)] at h2
  exact h2
 obtain ⟨tb,htb⟩:∃ tb,tb=subA ta1 tm1.length 0 1:=⟨_,rfl⟩
 rw [←htb] at hta2
 obtain ⟨N,hN⟩:∃ N,N=tm1.length:=⟨_,rfl⟩
 have hM:(((tm1.length - ((s:Int) / 32).toNat:Nat):Int)).toNat=N:=by omega
 rw [hM]
 have hown:∀ r:List U32,r.length=N→OwnA (some ⟨b1,0,none⟩) N r []:=fun r hr=>.inr ⟨b1,rfl,by rw [hr];rfl,by omega,by simp only [maxLen];omega⟩
 refine Wc.re 7 rfl (show _=Value.slice (some ⟨b1,0,none⟩) (List.replicate N (default:U32)).length N by rw [List.length_replicate]) ?_
 refine Wc.re 6 rfl (show _=Value.int .i64 (s:Int) by rw [es]) ?_
 refine Wc.re 0 rfl (show _=Value.slice tb tm1.length tm1.length by rw [ed,htb];rfl) ?_
 refine Wc.re 29 rfl (show _=Value.slice tb tm1.length tm1.length by rw [ed,htb];rfl) ?_
 refine Wc.re 30 rfl (show _=Value.int .i64 (tm1.length:Int) by rw [ed];rfl) ?_
 refine Wc.loop (ι:=Nat×List U32) (fun (i,r)=>([(31,.int .i64 (i:Int)),(7,.slice (some ⟨b1,0,none⟩) r.length N),(30,.int .i64 (tm1.length:Int)),(29,.slice tb (List.length tm1) (List.length tm1)),(0,.slice tb (List.length tm1) (List.length tm1)),(6,.int .i64 (↑s:Int)),(5,.int .i64 0),(4,.slice none 0 0)],[(0,some b1,Row 215 r [])])) (fun (i,r)=>i≤tm1.length∧r.length=N∧Lims r∧((2 ^ s:Nat):Int)*valB (r.take i)+lg tm1 0 % ((2 ^ s:Nat):Int)=valB (tm1.take i)+pb i*(lg tm1 i % ((2 ^ s:Nat):Int))) (fun (i,r)=>tm1.length - i) ((0,List.replicate N (default:U32))) (⟨Nat.zero_le _,List.length_replicate,Lims.zeros N,by rw [List.take_zero,List.take_zero,valB_nil,Int.mul_zero,pb_zero,Int.one_mul]⟩) ⟨rfl,rfl,rfl,rfl,rfl,rfl,rfl,rfl,trivial⟩ ⟨rfl,trivial⟩ (fun ⟨i,r⟩=>fun hk=>?_)
 obtain ⟨hi,hrN,hdr,hv⟩:=hk
 have hor:=hown r hrN
 rcases Nat.lt_or_ge i tm1.length with hia | hia
 · have hx:0≤(tm1[((i:Nat):Int).toNat]?.getD default).v∧(tm1[((i:Nat):Int).toNat]?.getD default).v<4294967296:=lg_lt dm hia
   have ex:(tm1[((i:Nat):Int).toNat]?.getD default).v=lg tm1 i:=rfl
   have ex1:(tm1[(((i:Nat):Int)+1).toNat]?.getD default).v=lg tm1 (i+1):=by unfold lg;rw [show (((i:Nat):Int)+1).toNat=((i+1:Nat):Int).toNat by omega]
   have hy:0≤(tm1[(((i:Nat):Int)+1).toNat]?.getD default).v∧(tm1[(((i:Nat):Int)+1).toNat]?.getD default).v<4294967296:=by rw [ex1];exact lg_rng dm _
   by_cases hib:i+1<tm1.length
   · refine Wc.gl 14 [1] ?_
     refine Wl.q rfl (Qy.at (α:=U32) T.sl123 rfl rfl (by assumption) (by omega)) ?_
     refine Wl.q rfl (Qy.loadG T.one215 rfl (Arr.cell (by assumption) (by omega) 0 rfl rfl)) ?_
     refine Wl.gl 7 [] ?_
     refine Wl.q rfl (Qy.conv64 rfl T.u214 rfl (by omega)) ?_
     refine Wl.gl 19 [1] ?_
     refine Wl.q rfl (Qy.at (α:=U32) T.sl123 rfl rfl (by assumption) (by omega)) ?_
     refine Wl.q rfl (Qy.loadG T.one215 rfl (Arr.cell (by assumption) (by omega) 0 rfl rfl)) ?_
     refine Wl.q rfl (Qy.conv64 rfl T.u214 rfl (by omega)) ?_
     refine Wl.q rfl (Qy.shl32 rfl rfl (by omega)) ?_
     refine Wl.q rfl (Qy.orHigh rfl rfl (by omega) (by omega)) ?_
     refine Wl.gl 8 [] ?_
     refine Wl.q rfl (Qy.shrV rfl rfl (by omega) (by omega)) ?_
     refine Wl.q rfl (Qy.trunc32 rfl T.u215 rfl) ?_
     refine Wl.q rfl (Qy.indexAddrO (α:=U32) T.sl123 rfl rfl (by assumption) (by omega)) ?_
     refine Wl.setO (z:=_) 0 T.size215 rfl rfl rfl (by assumption) (by omega) rfl (fun ho1=>?_)
     refine Wl.ga 7 [] ?_
     obtain ⟨out,hout⟩:∃ out,out=((tm1[(((i:Nat):Int)+1).toNat]?.getD default).v*4294967296+(tm1[((i:Nat):Int).toNat]?.getD default).v) / ((2 ^ s:Nat):Int) % 4294967296:=⟨_,rfl⟩
     have hpart:((2 ^ s:Nat):Int)*out=4294967296*(lg tm1 (i+1) % ((2 ^ s:Nat):Int))+lg tm1 i - lg tm1 i % ((2 ^ s:Nat):Int):=by
      rw [hout,ex,ex1];exact shr_part (by omega) (lg_rng dm i) (lg_rng dm (i+1))
     refine Ar.reH 0 (Row 215 (r.set i (⟨out⟩:U32)) []) rfl (by rw [hout,Int.toNat_natCast]) ?_
     refine Ar.re 7 rfl (show _=Value.slice (some ⟨b1,0,none⟩) (r.set i (⟨out⟩:U32)).length N by rw [List.length_set]) ?_
     refine Ar.again ((i+1,r.set i (⟨out⟩:U32))) ?_ ?_ rfl ⟨rfl,rfl,rfl,rfl,rfl,rfl,rfl,rfl,trivial⟩ ⟨rfl,trivial⟩
     · exact ⟨by omega,by rw [List.length_set];exact hrN,lims_set hdr _ (by rw [hout];exact mod32 _),shr_next (by omega) hv hpart⟩
     show tm1.length - (i+1)<tm1.length - i
     omega
   have hz0:=lg_end (show tm1.length≤i+1 by omega)
   refine Wc.gl 14 [1] ?_
   refine Wl.q rfl (Qy.at (α:=U32) T.sl123 rfl rfl (by assumption) (by omega)) ?_
   refine Wl.q rfl (Qy.loadG T.one215 rfl (Arr.cell (by assumption) (by omega) 0 rfl rfl)) ?_
   refine Wl.gl 7 [] ?_
   refine Wl.q rfl (Qy.conv64 rfl T.u214 rfl (by omega)) ?_
   refine Wl.gl 21 [0] ?_
   refine Wl.q rfl (Qy.shrV rfl rfl (by omega) (by omega)) ?_
   refine Wl.q rfl (Qy.trunc32 rfl T.u215 rfl) ?_
   refine Wl.q rfl (Qy.indexAddrO (α:=U32) T.sl123 rfl rfl (by assumption) (by omega)) ?_
   refine Wl.setO (z:=_) 0 T.size215 rfl rfl rfl (by assumption) (by omega) rfl (fun ho1=>?_)
   refine Wl.ga 7 [] ?_
   obtain ⟨out,hout⟩:∃ out,out=(tm1[((i:Nat):Int).toNat]?.getD default).v / ((2 ^ s:Nat):Int) % 4294967296:=⟨_,rfl⟩
   have hpart:((2 ^ s:Nat):Int)*out=4294967296*(lg tm1 (i+1) % ((2 ^ s:Nat):Int))+lg tm1 i - lg tm1 i % ((2 ^ s:Nat):Int):=by
    rw [hout,show (tm1[((i:Nat):Int).toNat]?.getD default).v=lg tm1 (i+1)*4294967296+lg tm1 i by rw [hz0,Int.zero_mul,Int.zero_add];rfl];exact shr_part (by omega) (lg_rng dm i) (lg_rng dm (i+1))
   refine Ar.reH 0 (Row 215 (r.set i (⟨out⟩:U32)) []) rfl (by rw [hout,Int.toNat_natCast]) ?_
   refine Ar.re 7 rfl (show _=Value.slice (some ⟨b1,0,none⟩) (r.set i (⟨out⟩:U32)).length N by rw [List.length_set]) ?_
   refine Ar.again ((i+1,r.set i (⟨out⟩:U32))) ?_ ?_ rfl ⟨rfl,rfl,rfl,rfl,rfl,rfl,rfl,rfl,trivial⟩ ⟨rfl,trivial⟩
   · exact ⟨by omega,by rw [List.length_set];exact hrN,lims_set hdr _ (by rw [hout];exact mod32 _),shr_next (by omega) hv hpart⟩
   show tm1.length - (i+1)<tm1.length - i
   omega
 have hii:i=tm1.length:=by omega
 subst hii
 have hval:=shr_end hP (by omega) hv
 refine Wc.gl 15 [0] ?_
 refine Wl.freezeRow 0 rfl hor (fun G9 hle9 hA=>?_)
 refine Wl.k 1 rfl (c181 _ _ _ _ (by assumption) (by omega) (by first | assumption | omega)) (fun v2 G2 Ho2 hle2 hp=>?_)
 obtain ⟨ta2,tm2,rfl,hta2,hte2,htr2,htl2,rfl,rfl⟩:=hp
 refine Wl.ga 5 [] ?_
 refine Ar.e2 ?_
 rw [trim_val hte1 htr1] at hval
 exact ⟨_,rfl,Nat32.of hta2 hte2 htr2 hdr hval (by omega),rfl⟩
end Go.Proofs.YtfdcckcadfhpeaaGreatDoor
namespace Go.Sl
open Go
section
variable {P:Program} {ops:Array Oper} {rest:List Oper} {B:Bs} {e:Env} {D:List Deferred} {H:Hp} {G:Imm} {K:Act→World→Prop}
 {ty:TypeId} {pos:String} {after:Array Edge} {d:Nat} {α:Type} [Cells α]
theorem run_appendArr {w:World} (hw:HoldH H G w) {T E bytes:Nat} {zs:List Value} (hT:isSlice P T E (Cells.sz α)) (hE:ElemOf P E (Cells.sz α) bytes zs) {a ad:Option Addr} {c2:Nat} {xs ys:List α}
 (hA:Src H G a xs) (hx0:0<xs.length) (hsrc:Src H G ad ys) (hy0:0<ys.length) (hb:(xs.length+ys.length)*bytes≤140737488355328) (hl:xs.length+ys.length≤maxLen) :
 ∃ c' junk' w',(Builtin.append_ #[T,T] ty #[.slice a xs.length xs.length,.slice ad ys.length c2]).run P w=.ok (.slice (some ⟨w.heap.size,0,none⟩) (xs++ys).length c') w'∧OwnA (some ⟨w.heap.size,0,none⟩) c' (xs++ys) junk'∧
  Upd (fun _=>False) w w'∧w'.heap.size=w.heap.size+1∧w'.heap[w.heap.size]?=some (Row E (xs++ys) junk'):=by
 obtain ⟨i,z,hi,hz1,hz2,hs,hby,hzl,hsz⟩:=hE
 have hm63:xs.length+ys.length≤9223372036854775807:=by simp only [maxLen] at hl;omega
 have hlen:(xs++ys).length=xs.length+ys.length:=List.length_append
 have hyl:(flat ys).length=ys.length*i.size:=by rw [flat_length,hs]
 have hxl:(flat xs).length=xs.length*i.size:=by rw [flat_length,hs]
 have junkLen:∀ k,(Builtin.zeroCells z.cells k).toList.length=k*Cells.sz α:=fun k=>by
  rw [Array.length_toList,size_zeroCells,hz2];simp [hzl]
 have fresh:∀ old,old<xs.length+ys.length→∃ junk',OwnA (some ⟨w.heap.size,0,none⟩) (grownCap w (xs.length+ys.length) old E) (xs++ys) junk'∧
  (w.drew.alloc (.cells ((flat xs).toArray++(flat ys).toArray++Builtin.zeroCells z.cells (grownCap w (xs.length+ys.length) old E - (xs.length+ys.length))) E)).heap[w.heap.size]?=some (Row E (xs++ys) junk'):=fun old hold=>by
  have hge:=grownCap_ge w (xs.length+ys.length) old E
  have hcm:grownCap w (xs.length+ys.length) old E≤maxLen:=grownCap_le_maxLen w _ old E hl
  refine ⟨(Builtin.zeroCells z.cells (grownCap w (xs.length+ys.length) old E - (xs.length+ys.length))).toList,.inr ⟨_,rfl,?_,by rw [hlen];exact hge,hcm⟩,?_⟩
  · rw [junkLen,hlen,←Nat.add_mul];congr 1;omega
  rw [show w.heap.size=w.drew.heap.size from rfl,alloc_new]
  congr 1
  simp [Row,flat_append]
 have hupd:∀ o,Upd (fun _=>False) w (w.drew.alloc o):=fun o=>(Upd.refl _ w).drew.alloc o
 rcases hA w hw with ⟨_,h0⟩ | ⟨ax,rfl,hcell⟩
 · rw [h0] at hx0;simp at hx0
 rcases hsrc w hw with ⟨_,h0⟩ | ⟨src,rfl,hsr⟩
 · rw [h0] at hy0;simp at hy0
 have hr:=run_append_grow (P:=P) w T ty E i z hT.1 hi hz1 ax xs.length xs.length (flat xs) hxl hcell src ys.length c2 (flat ys) hyl hsr (by omega) (by omega) (growslice_fits (by omega) (by rw [hby];exact hb))
 obtain ⟨junk',h1,h2⟩:=fresh xs.length (by omega)
 exact ⟨_,junk',_,by rw [hlen];exact hr,h1,hupd _,by simp,h2⟩
theorem Wl.appendArr {s x:Operand} {T E bytes:Nat} {zs:List Value} {a ad:Option Addr} {c2:Nat} {xs ys:List α} (t:Nat) (hn:Nat.ble (d+1) B.n=true) (hT:isSlice P T E (Cells.sz α)) (hE:ElemOf P E (Cells.sz α) bytes zs)
 (hs:e.ev s=some (.slice a xs.length xs.length)) (hx:e.ev x=some (.slice ad ys.length c2)) (hA:Src H G a xs) (hx0:0<xs.length) (hsrc:Src H G ad ys) (hy0:0<ys.length)
 (hb:(xs.length+ys.length)*bytes≤140737488355328) (hl:xs.length+ys.length≤maxLen)
 (h:∀ b c' junk',OwnA (some ⟨b,0,none⟩) c' (xs++ys) junk'→Wl P ops rest B ⟨(d,.slice (some ⟨b,0,none⟩) (xs++ys).length c') :: e,D,(t,some b,Row E (xs++ys) junk') :: H,G⟩ K) :
 Wl P ops (⟨some d,.call { callee:=.builtin .append,args:=#[s,x],argTypes:=#[T,T] },ty,pos,after,none⟩ :: rest) B ⟨e,D,H,G⟩ K:=by
 intro ac w hh
 obtain ⟨c',junk',w',hrun,ho',hu,hsz,hbk⟩:=run_appendArr (c2:=c2) (ty:=ty) hh.mem hT hE hA hx0 hsrc hy0 hb hl
 unfold lstWp
 rw [if_pos (by simp [Region.wanted])]
 unfold opWp
 have hex:(execOp ac.eval ⟨some d,.call { callee:=.builtin .append,args:=#[s,x],argTypes:=#[T,T] },ty,pos,after,none⟩).run P w=.ok (.value (.slice (some ⟨w.heap.size,0,none⟩) (xs++ys).length c')) w':=by
  simp only [execOp,resolve,invoke,builtin,Sem.run_bind,Sem.run_pure,Result.andThen_ok,List.map_toArray,List.map_cons,List.map_nil,hh.eval hs,hh.eval hx,hrun]
 rw [hex]
 exact h _ c' junk' ho' _ _ (Hold.put (hh.ownNew t hu hsz hbk) hn _)
end
end Go.Sl
namespace Go.Proofs.YtfdcckcadfhpeaaGreatDoor
open Go Go.Sl
set_option maxHeartbeats 4000000
theorem lims_drop {l:List U32} (h:Lims l) (k:Nat):Lims (l.drop k):=fun d hd=>h d (List.mem_of_mem_drop hd)
theorem bitAux_bounds:∀ (f x:Nat),0<x→x<2 ^ f→1≤Lib.bitLenAux f x∧Lib.bitLenAux f x≤f∧2 ^ (Lib.bitLenAux f x - 1)≤x∧x<2 ^ Lib.bitLenAux f x
 | 0,x,h0,h1=>by simp at h1;omega
 | f+1,x,h0,h1=>by
   unfold Lib.bitLenAux
   rw [if_neg (by omega)]
   by_cases h2:x / 2=0
   · have hx:x=1:=by omega
     subst hx
     have:Lib.bitLenAux f (1 / 2)=0:=by cases f <;> simp [Lib.bitLenAux]
     rw [this];simp
   have ih:=bitAux_bounds f (x / 2) (by omega) (by rw [Nat.pow_succ] at h1;omega)
   obtain ⟨a1,a2,a3,a4⟩:=ih
   refine ⟨by omega,by omega,?_,?_⟩
   · rw [Nat.add_sub_cancel_left,←Nat.sub_add_cancel a1,Nat.pow_succ];omega
   rw [Nat.add_comm 1,Nat.pow_succ];omega
theorem lead_room {x:Int} (h0:0<x) (h1:x<4294967296):∃ s:Nat,s<32∧32 - (Lib.bitLen x.toNat:Int)=(s:Int)∧2147483648≤((2 ^ s:Nat):Int)*x∧((2 ^ s:Nat):Int)*(x+1)≤4294967296:=by
 have hb := bitAux_bounds 64 x.toNat (by omega) (by have:(2:Nat) ^ 64=18446744073709551616:=by decide
                                                    omega)
 have hle:=Lib.bitLen_le x.toNat 32 (by omega) (by omega)
 unfold Lib.bitLen at hle ⊢
 generalize Lib.bitLenAux 64 x.toNat=L at *
 obtain ⟨b1,b2,b3,b4⟩:=hb
 refine ⟨32 - L,by omega,by omega,?_,?_⟩
 · have e:2 ^ (32 - L)*2 ^ (L - 1)=2147483648:=by
    rw [←Nat.pow_add,show 32 - L+(L - 1)=31 by omega]
   have h2:=Nat.mul_le_mul_left (2 ^ (32 - L)) b3
   rw [e] at h2
   have h3:((2 ^ (32 - L):Nat):Int)*x=((2 ^ (32 - L)*x.toNat:Nat):Int):=by rw [Int.natCast_mul,Int.toNat_of_nonneg (by omega)]
   rw [h3];omega
 have e:2 ^ (32 - L)*2 ^ L=4294967296:=by
  rw [←Nat.pow_add,show 32 - L+L=32 by omega]
 have h2:=Nat.mul_le_mul_left (2 ^ (32 - L)) (show x.toNat+1≤2 ^ L by omega)
 rw [e] at h2
 have h3:((2 ^ (32 - L):Nat):Int)*(x+1)=((2 ^ (32 - L)*(x.toNat+1):Nat):Int):=by rw [Int.natCast_mul,Int.natCast_add,Int.toNat_of_nonneg (by omega)];rfl
 rw [h3];omega
theorem norm_top {b v:List U32} {m:Nat} {P:Int} (hP:0<P) (hb:b.length=m+2) (db:Lims b) (dv:Lims v) (tv:Top v) (hx:2147483648≤P*lg b (m+1)) (hx2:P*(lg b (m+1)+1)≤4294967296) (hv:valB v=P*valB b):v.length=m+2∧2147483648≤lg v (m+1):=by
 have e1:=bval_step b (m+1)
 rw [take_all (show b.length≤m+1+1 by omega)] at e1
 have h1:=valB_lt (db.take (m+1))
 have h2:=valB_nonneg (db.take (m+1))
 rw [List.length_take,Nat.min_eq_left (by omega)] at h1
 have hp:=pb_pos (m+1)
 have up:valB v<pb (m+2):=by
  have f1:=Int.mul_lt_mul_of_pos_left (show valB b<pb (m+1)*(lg b (m+1)+1) by rw [Int.mul_add,Int.mul_one];omega) hP
  have f2:=Int.mul_le_mul_of_nonneg_left hx2 (Int.le_of_lt hp)
  rw [hv,show m+2=m+1+1 by omega,pb_succ,Int.mul_comm 4294967296]
  rw [Int.mul_left_comm P] at f1
  omega
 have low:pb (m+1)*2147483648≤valB v:=by
  have f1:=Int.mul_le_mul_of_nonneg_left (show pb (m+1)*lg b (m+1)≤valB b by omega) (Int.le_of_lt hP)
  have f2:=Int.mul_le_mul_of_nonneg_left hx (Int.le_of_lt hp)
  rw [hv]
  rw [Int.mul_left_comm P] at f1
  omega
 have l1:=ltop_len dv tv up
 have l2:m+2≤v.length:=by
  rcases Nat.lt_or_ge v.length (m+2) with h | h
  · have f1:=valB_lt dv
    have f2:=pb_le (show v.length≤m+1 by omega)
    omega
  exact h
 have hl:v.length=m+2:=by omega
 refine ⟨hl,?_⟩
 have e2:=bval_step v (m+1)
 rw [take_all (show v.length≤m+1+1 by omega)] at e2
 have h3:=valB_lt (dv.take (m+1))
 rw [List.length_take,Nat.min_eq_left (by omega)] at h3
 rcases Int.lt_or_le (lg v (m+1)) 2147483648 with h | h
 · have f1:=Int.mul_le_mul_of_nonneg_left (show lg v (m+1)+1≤2147483648 by omega) (Int.le_of_lt hp)
   rw [Int.mul_add,Int.mul_one] at f1
   omega
 exact h
theorem cmpZ_neg {x y:Int} (h:cmpZ x y<0):x<y:=by
 unfold cmpZ at h
 split at h
 · assumption
 split at h <;> omega
theorem win_open (R:List U32) (i n:Nat):R=R.take i++((R.drop i).take n++R.drop (i+n)):=by
 rw [←List.drop_drop,List.take_append_drop,List.take_append_drop]
theorem div_start {u v:List U32} (du:Lims u) (dv:Lims v) (tv:Top v) (h0:0<v.length) (hl:v.length≤u.length):valB ((u++[(default:U32)]).drop (u.length+1 - v.length))<valB v:=by
 rw [List.drop_append_of_le_length (by omega),valB_append,valB_one]
 have h1:=valB_lt (lims_drop du (u.length+1 - v.length))
 rw [List.length_drop,show u.length - (u.length+1 - v.length)=v.length - 1 by omega] at h1
 have h2:=ltop_ge dv tv (fun e=>by rw [e] at h0;simp at h0)
 show valB (u.drop (u.length+1 - v.length))+pb _*0<_
 rw [Int.mul_zero];omega
theorem win_room {R v:List U32} {i n:Nat} (dR:Lims R) (dv:Lims v) (hi:i<R.length) (hn:v.length=n) (hl:i+(n+1)≤R.length) (h:valB (R.drop (i+1))<valB v) :
 valB ((R.drop i).take (n+1))<4294967296*valB v∧valB (R.drop (i+(n+1)))=0:=by
 have e1:=bdrop_step hi
 have e2:=bval_split (R.drop i) (show n+1≤(R.drop i).length by rw [List.length_drop];omega)
 rw [List.drop_drop] at e2
 have h1:=lg_rng dR i
 have h2:=valB_lt dv
 rw [hn] at h2
 have h3:=valB_nonneg (lims_drop dR (i+(n+1)))
 have h4:=valB_nonneg ((lims_drop dR i).take (n+1))
 have h5:=valB_nonneg (lims_drop dR (i+1))
 have hp:=pb_pos (n+1)
 have h6:valB (R.drop (i+(n+1)))=0:=by
  rcases (show valB (R.drop (i+(n+1)))=0∨1≤valB (R.drop (i+(n+1))) by omega) with hz | hz
  · exact hz
  have f1:=Int.mul_le_mul_of_nonneg_left hz (Int.le_of_lt hp)
  rw [Int.mul_one] at f1
  have f2:=pb_succ n
  omega
 refine ⟨?_,h6⟩
 rw [h6,Int.mul_zero] at e2
 omega
theorem div_end {a b q R P:Int} (hP:0<P) (h:P*a=q*(P*b)+R) (h0:0≤R) (h1:R<P*b):R / P=a % b∧q=a / b∧0<b:=by
 have e:R=P*(a - q*b):=by rw [Int.mul_sub,Int.mul_left_comm P q];omega
 have e1:R / P=a - q*b:=by rw [e,Int.mul_ediv_cancel_left _ (Int.ne_of_gt hP)]
 have l0:0≤a - q*b:=by
  rw [e] at h0
  exact Int.le_of_mul_le_mul_left (by rw [Int.mul_zero];exact h0) hP
 have l1:a - q*b<b:=by
  rw [e] at h1
  exact Int.lt_of_mul_lt_mul_left h1 (Int.le_of_lt hP)
 have hb:0<b:=by omega
 have:=(Int.ediv_emod_unique (a:=a) (b:=b) (r:=a - q*b) (q:=q) hb).2 ⟨by rw [Int.mul_comm b q];omega,l0,l1⟩
 exact ⟨e1.trans this.2.symm,this.1.symm,hb⟩
theorem Nat32.short {G:Imm} {v:Value} {z:Int} {n:Nat} {lb:List U32} (h:Nat32 G v z n) (db:Lims lb) (hz:z<valB lb):Nat32 G v z lb.length:=by
 obtain ⟨b,m,h1,h2,h3,h4,h5,h6⟩:=h
 refine ⟨b,m,h1,h2,h3,h4,h5,?_⟩
 rcases Nat.lt_or_ge lb.length m.length with h7 | h7
 · have:=ltop_lt_len db h3 h4 h7;omega
 exact h7
theorem c249 (G:Imm) (x:Int) (h0:0≤x) (h1:x≤4294967295):Does Tryz.prog 249 [.int .u32 x] G [] (fun v G' Ho=>v=.int .i64 (32 - (Lib.bitLen x.toNat:Int))∧G'=G∧Ho=[]):=
 Does.pureCalls fun w=>Tryz.bits_LeadingZeros32 x w h0 h1
end Go.Proofs.YtfdcckcadfhpeaaGreatDoor
namespace Go.Proofs.YtfdcckcadfhpeaaGreatDoor
open Go Go.Sl
set_option maxHeartbeats 4000000
theorem c249s (G:Imm) (x:Int) (h0:0<x) (h1:x<4294967296):Does Tryz.prog 249 [.int .u32 x] G [] (fun v G' Ho=>∃ sh:Nat,v=.int .i64 (sh:Int)∧sh<32∧2147483648≤((2 ^ sh:Nat):Int)*x∧((2 ^ sh:Nat):Int)*(x+1)≤4294967296∧G'=G∧Ho=[]):=by
 obtain ⟨sh,h2,h3,h4,h5⟩:=lead_room h0 h1
 exact (c249 G x (by omega) (by omega)).mono fun v G' Ho _ ⟨e1,e2,e3⟩=>⟨sh,by rw [e1,h3],h2,h4,h5,e2,e3⟩
theorem c250z (G:Imm) (a:Option Addr) (ca:Nat) (la:List U32) (s:Nat) (ha:Arr G a la) (da:Lims la) (h1:la.length≤1073741824) (hs:s<32) :
 Does Tryz.prog 250 [.slice a la.length ca,.int .i64 (s:Int)] G [] (fun v G' Ho=>∃ r,v=.tuple #[r,.int .i64 0]∧Nat32 G' r (((2 ^ s:Nat):Int)*valB la) (la.length+1)∧Ho=[]):=by
 have h:=c250 G a ca la 0 s ha da h1 hs (by omega)
 rw [show 32*0+s=s by omega,pb_zero,Int.one_mul] at h
 exact h
attribute [local irreducible] valB pb cmpZ lstWp
theorem c222 (G:Imm) (a b:Option Addr) (ca cb:Nat) (la lb:List U32) (ha:Arr G a la) (hb:Arr G b lb) (da:Lims la) (ta:Top la) (db:Lims lb) (h1:la.length≤536870912) (h2:lb.length≤536870912) (h3:la.length≤ca) (h4:lb.length≤cb) (hB:0<valB lb) :
 Does Tryz.prog 222 [.slice a la.length ca,.slice b lb.length cb] G [] (fun v G' Ho=>∃ q r,v=.tuple #[q,r,.int .i64 0]∧Nat32 G' q (valB la / valB lb) la.length∧Nat32 G' r (valB la % valB lb) lb.length∧Ho=[]):=by
 have hA:=valB_nonneg da
 refine Does.enter Tryz.func222 rfl Tryz.ntmps222 rfl (fun w=>?_)
 refine Wc.gl 10 [] ?_
 refine Wl.k 0 rfl (c181 _ _ _ _ (by assumption) (by omega) (by first | assumption | omega)) (fun v1 G1 Ho1 hle1 hp=>?_)
 obtain ⟨ta1,tm1,rfl,hta1,hte1,htr1,htl1,rfl,rfl⟩:=hp
 refine Wl.gc 3 [] ?_
 have dm:=trim_lims hte1 db
 have tp:=trim_top hte1 htr1
 have hV:=trim_val hte1 htr1
 have hpos:0<tm1.length:=by
  rcases Nat.eq_zero_or_pos tm1.length with h | h
  · have h5:=List.eq_nil_of_length_eq_zero h
    rw [h5,valB_nil] at hV
    omega
  exact h
 by_cases hlt:valB la<valB tm1
 · have hcmp:cmpZ (valB la) (valB tm1)=-1:=cmpZ_lt hlt
   refine Wc.gl 16 [0] ?_
   refine Wl.k0 rfl (c182 _ _ _ _ _ _ _ (by assumption) (by assumption) (by assumption) (by assumption) (by omega) (by omega) (by omega) (by omega)) ?_
   refine Wl.gl 7 [1] ?_
   refine Wl.k 0 rfl (c185 _ _ _ _ (by assumption) (by first | omega | (simp only [List.length_cons,List.length_nil];omega)) (by first | omega | (simp only [List.length_cons,List.length_nil];omega))) (fun v2 G2 Ho2 hle2 hp=>?_)
   obtain ⟨na2,nm2,rfl,hna2,hne2,hnt2,hnl2,rfl⟩:=hp
   replace ha:=ha.up hle2
   replace hb:=hb.up hle2
   replace hta1:=hta1.up hle2
   refine Wl.ga 7 [] ?_
   refine Ar.e3 ?_
   refine ⟨_,_,rfl,⟨none,[],rfl,Arr.nil _,Lims.nil,Top.nil,?_,Nat.zero_le _⟩,Nat32.short (Nat32.of hna2 hne2 hnt2 da ?_ (Nat.le_refl _)) db ?_,rfl⟩
   · rw [valB_nil,Int.ediv_eq_zero_of_lt hA (by omega)]
   · rw [Int.emod_eq_of_lt hA (by omega)]
   exact Int.emod_lt_of_pos _ hB
 have hcmp:¬cmpZ (valB la) (valB tm1)<0:=fun h=>hlt (cmpZ_neg h)
 by_cases hone:tm1.length=1
 · have hv1:=bone_val hone
   have hr1:=lg_rng dm 0
   have e1:(tm1[(0:Int).toNat]?.getD default).v=lg tm1 0:=rfl
   have hb0:0<(tm1[(0:Int).toNat]?.getD default).v∧(tm1[(0:Int).toNat]?.getD default).v<4294967296:=by rw [e1];omega
   refine Wc.gl 16 [0] ?_
   refine Wl.k0 rfl (c182 _ _ _ _ _ _ _ (by assumption) (by assumption) (by assumption) (by assumption) (by omega) (by omega) (by omega) (by omega)) ?_
   refine Wl.gl 19 [0,1] ?_
   refine Wl.q rfl (Qy.at (α:=U32) T.sl123 rfl rfl (by assumption) (by omega)) ?_
   refine Wl.q rfl (Qy.loadG T.one215 rfl (Arr.cell (by assumption) (by omega) 0 rfl rfl)) ?_
   refine Wl.k 0 rfl (c248 _ _ _ _ _ (by assumption) (by assumption) (by omega) (by omega) (by omega)) (fun v2 G2 Ho2 hle2 hp=>?_)
   obtain ⟨dq2,dz2,dm2,rfl,⟨dqa2,dqm2,rfl,hdqa2,hdql2,hdqt2,hdqv2,hdqn2⟩,hdv2,hd02,hd12,rfl⟩:=hp
   replace ha:=ha.up hle2
   replace hb:=hb.up hle2
   replace hta1:=hta1.up hle2
   refine Wl.gl 13 [] ?_
   refine Wl.lit (α:=U32) 0 [⟨dm2⟩] rfl T.sl123 T.el215 rfl rfl rfl rfl rfl (fun b1=>?_)
   have hdl:Lims [(⟨dm2⟩:U32)]:=Lims.one (by omega)
   refine Wl.freezeRow 0 rfl (OwnA.made (xs:=[(⟨dm2⟩:U32)]) (by simp [maxLen])) (fun G9 hle9 hA9=>?_)
   replace hdqa2:=hdqa2.up hle9
   refine Wl.k 1 rfl (c185 _ _ _ _ (by assumption) (by first | omega | (simp only [List.length_cons,List.length_nil];omega)) (by first | omega | (simp only [List.length_cons,List.length_nil];omega))) (fun v3 G3 Ho3 hle3 hp=>?_)
   obtain ⟨na3,nm3,rfl,hna3,hne3,hnt3,hnl3,rfl⟩:=hp
   replace hA9:=hA9.up hle3
   replace hdqa2:=hdqa2.up hle3
   refine Wl.ga 7 [] ?_
   refine Ar.e3 ?_
   have hdu:=(Int.ediv_emod_unique (a:=valB la) (b:=valB lb) (r:=dm2) (q:=dz2) hB).2 ⟨by rw [Int.mul_comm,←hV,hv1,←e1];omega,hd02,by rw [←hV,hv1,←e1];exact hd12⟩
   refine ⟨_,_,rfl,⟨dqa2,dqm2,rfl,hdqa2,hdql2,hdqt2,by rw [hdqv2,hdu.1],hdqn2⟩,Nat32.short (Nat32.of hna3 hne3 hnt3 hdl (by rw [valB_one,hdu.2]) (Nat.le_refl _)) db (Int.emod_lt_of_pos _ hB),rfl⟩
 obtain ⟨m,hm⟩:∃ m,tm1.length=m+2:=⟨tm1.length - 2,by omega⟩
 have hx:=lg_rng dm (m+1)
 have ex:(tm1[((tm1.length:Int) - 1).toNat]?.getD default).v=lg tm1 (m+1):=by unfold lg;rw [show ((tm1.length:Int) - 1).toNat=((m+1:Nat):Int).toNat by omega]
 have hx1:lg tm1 (m+1)≠0:=by
  rcases tp with h | h
  · rw [h] at hm;simp at hm
  unfold lg;rw [Int.toNat_natCast,show m+1=tm1.length - 1 by omega];exact h
 have hxb:0<(tm1[((tm1.length:Int) - 1).toNat]?.getD default).v∧(tm1[((tm1.length:Int) - 1).toNat]?.getD default).v<4294967296:=by rw [ex];omega
 refine Wc.gl 16 [0] ?_
 refine Wl.k0 rfl (c182 _ _ _ _ _ _ _ (by assumption) (by assumption) (by assumption) (by assumption) (by omega) (by omega) (by omega) (by omega)) ?_
 refine Wl.gl 23 [0,0] ?_
 refine Wl.q rfl (Qy.at (α:=U32) T.sl123 rfl rfl (by assumption) (by omega)) ?_
 refine Wl.q rfl (Qy.loadG T.one215 rfl (Arr.cell (by assumption) (by omega) 0 rfl rfl)) ?_
 refine Wl.k 0 rfl (c249s _ _ (by omega) (by omega)) (fun v2 G2 Ho2 hle2 hp=>?_)
 obtain ⟨sh,rfl,hsh,hs1,hs2,rfl,rfl⟩:=hp
 refine Wl.gl 7 [] ?_
 refine Wl.k 0 rfl (c250z _ _ _ _ sh (by assumption) (by assumption) (by omega) (by omega)) (fun v3 G3 Ho3 hle3 hp=>?_)
 obtain ⟨sr3,rfl,⟨sa3,sm3,rfl,hsa3,hsl3,hst3,hsv3,hsn3⟩,rfl⟩:=hp
 replace ha:=ha.up hle3
 replace hb:=hb.up hle3
 replace hta1:=hta1.up hle3
 refine Wl.gl 11 [] ?_
 refine Wl.k 0 rfl (c250z _ _ _ _ sh (by assumption) (by assumption) (by omega) (by omega)) (fun v4 G4 Ho4 hle4 hp=>?_)
 obtain ⟨sr4,rfl,⟨sa4,sm4,rfl,hsa4,hsl4,hst4,hsv4,hsn4⟩,rfl⟩:=hp
 replace hsa3:=hsa3.up hle4
 replace ha:=ha.up hle4
 replace hb:=hb.up hle4
 replace hta1:=hta1.up hle4
 refine Wl.gl 10 [] ?_
 refine Wl.lit (α:=U32) 0 [⟨0⟩] rfl T.sl123 T.el215 rfl rfl rfl rfl rfl (fun b1=>?_)
 have hP:0<((2 ^ sh:Nat):Int):=(pow_split (s:=sh) (by omega)).choose_spec.2.2
 obtain ⟨hvl,hvt⟩:=norm_top hP hm dm hsl3 hst3 (by rw [←ex];exact hs1) (by rw [←ex];exact hs2) hsv3
 have hge:valB sm3≤valB sm4:=by
  rw [hsv3,hsv4];exact Int.mul_le_mul_of_nonneg_left (by omega) (Int.le_of_lt hP)
 have huv:sm3.length≤sm4.length:=by
  rcases Nat.lt_or_ge sm4.length sm3.length with h | h
  · have:=ltop_lt_len hsl4 hsl3 hst3 h;omega
  exact h
 refine Wl.appendArr (α:=U32) (xs:=sm4) (ys:=[(⟨0⟩:U32)]) 40 rfl T.sl123 T.el215 rfl rfl (Src.arr (by assumption)) (by omega) (Src.row 0 rfl) (by decide) (by simp only [List.length_cons,List.length_nil];omega) (by simp only [List.length_cons,List.length_nil,maxLen];omega) (fun b2 c2 j2 ho2=>?_)
 have hstart:=div_start hsl4 hsl3 hst3 (by omega) huv
 have huA:valB (sm4++[(⟨0⟩:U32)])=valB sm4:=by rw [valB_append,valB_one];show _+_*0=_;omega
 have dU:Lims (sm4++[(⟨0⟩:U32)]):=hsl4.append (Lims.one (by decide))
 have lU:(sm4++[(⟨0⟩:U32)]).length=sm4.length+1:=by rw [List.length_append];rfl
 change valB ((sm4++[(⟨0⟩:U32)]).drop _)<_ at hstart
 generalize sm4++[(⟨0⟩:U32)]=uL at *
 refine Wl.gl 16 [] ?_
 refine Wl.make (α:=U32) 41 rfl T.sl123 T.el215 rfl rfl (by omega) (by omega) (fun b3=>?_)
 refine Wl.gc 15 [] ?_
 obtain ⟨N,hN⟩:∃ N,N=uL.length - sm3.length:=⟨_,rfl⟩
 have hM:((uL.length:Int) - (sm3.length:Int)).toNat=N:=by omega
 rw [hM]
 have hNs:sm4.length+1 - sm3.length=N:=by omega
 rw [hNs] at hstart
 have hown:∀ r:List U32,r.length=N→OwnA (some ⟨b3,0,none⟩) N r []:=fun r hr=>.inr ⟨b3,rfl,by rw [hr];rfl,by omega,by simp only [maxLen];omega⟩
 have hc2:uL.length≤c2:=ho2.le
 have hownU:∀ r:List U32,r.length=uL.length→OwnA (some ⟨b2,0,none⟩) c2 r j2:=fun r hr=>by
  rcases ho2 with ⟨h,_⟩ | ⟨b',e,h5,h6,h7⟩
  · cases h
  exact .inr ⟨b',e,by rw [hr];exact h5,by rw [hr];exact h6,h7⟩
 refine Wc.re 16 rfl (show _=Value.slice (some ⟨b3,0,none⟩) (List.replicate N (default:U32)).length N by rw [List.length_replicate]) ?_
 refine Wc.re 17 rfl (show _=Value.int .i64 ((N:Int) - 1) by congr 1;omega) ?_
 refine Wc.loop (ι:=Nat×List U32×List U32) (fun (k,q,R)=>([(17,.int .i64 ((k:Int) - 1)),(16,.slice (some ⟨b3,0,none⟩) q.length N),(13,.slice (some ⟨b2,0,none⟩) R.length c2),(15,.int .i64 (sm3.length:Int)),(11,.slice sa3 (List.length sm3) (List.length sm3)),(10,.int .i64 (↑sh:Int)),(6,.int .i64 0),(5,.slice none 0 0),(4,.slice none 0 0)],[(41,some b3,Row 215 q []),(40,some b2,Row 215 R j2),(0,some b1,Row (α:=Go.Sl.U32) 215 ([Go.Sl.U32.mk 0]) ([]))])) (fun (k,q,R)=>k≤N∧q.length=N∧Lims q∧R.length=uL.length∧Lims R∧valB sm4=valB q*valB sm3+valB R∧valB (R.drop k)<valB sm3∧∀ j,j<k→lg q j=0) (fun (k,q,R)=>k) ((N,List.replicate N (default:U32),uL)) (⟨Nat.le_refl _,List.length_replicate,Lims.zeros N,rfl,dU,by rw [show valB (List.replicate N (default:U32))=0 from valB_replicate N,Int.zero_mul,Int.zero_add,huA],hstart,fun j _=>lg_zeros N j⟩) ⟨rfl,rfl,rfl,rfl,rfl,rfl,rfl,rfl,rfl,trivial⟩ ⟨rfl,rfl,rfl,trivial⟩ (fun ⟨k,q,R⟩=>fun hk=>?_)
 obtain ⟨hk1,hqN,hdq,hRn,hdR,hval,hRlt,hqz⟩:=hk
 have hoq:=hown q hqN
 have hoR:=hownU R hRn
 rcases Nat.eq_zero_or_pos k with rfl | hkp
 · rw [List.drop_zero] at hRlt
   refine Wc.gl 17 [0] ?_
   refine Wl.freezeRow 41 rfl hoq (fun G8 hle8 hAq=>Wl.freezeRow 40 rfl hoR (fun G9 hle9 hAR=>?_))
   replace hAq:=hAq.up hle9
   refine Wl.k 42 rfl (c252 _ _ _ _ sh (by assumption) (by assumption) (by omega) (by omega) (by omega)) (fun v5 G5 Ho5 hle5 hp=>?_)
   obtain ⟨sr5,rfl,⟨sa5,sm5,rfl,hsa5,hsl5,hst5,hsv5,hsn5⟩,rfl⟩:=hp
   replace hAR:=hAR.up hle5
   replace hAq:=hAq.up hle5
   refine Wl.gl 10 [] ?_
   refine Wl.k 42 rfl (c181 _ _ _ _ (by assumption) (by omega) (by first | assumption | omega)) (fun v6 G6 Ho6 hle6 hp=>?_)
   obtain ⟨ta6,tm6,rfl,hta6,hte6,htr6,htl6,rfl,rfl⟩:=hp
   refine Wl.ga 7 [] ?_
   refine Ar.e3 ?_
   have hRn0:=valB_nonneg hdR
   rw [hsv3,hsv4,hV] at hval
   rw [hsv3,hV] at hRlt
   obtain ⟨hd1,hd2,_⟩:=div_end hP hval hRn0 hRlt
   exact ⟨_,_,rfl,Nat32.of hta6 hte6 htr6 hdq hd2 (by omega),Nat32.short ⟨sa5,sm5,rfl,hsa5,hsl5,hst5,by rw [hsv5,hd1],Nat.le_refl _⟩ db (Int.emod_lt_of_pos _ hB),rfl⟩
 obtain ⟨i,rfl⟩:∃ i,k=i+1:=⟨k - 1,by omega⟩
 have ei:(((i+1:Nat):Int) - 1).toNat=i:=by omega
 refine Wc.gl 21 [1] ?_
 refine Wl.q rfl (Qy.cutLH T.sl123 rfl rfl rfl (by omega) (by omega) (by omega)) ?_
 refine Wl.q rfl (Qy.move rfl) ?_
 have hroom:=win_room (n:=m+2) hdR hsl3 (show i<R.length by omega) hvl (by omega) hRlt
 obtain ⟨p,hp⟩:∃ p,p=R.take i:=⟨_,rfl⟩
 obtain ⟨ww,hw⟩:∃ ww,ww=(R.drop i).take (m+3):=⟨_,rfl⟩
 obtain ⟨z,hz⟩:∃ z,z=R.drop (i+(m+3)):=⟨_,rfl⟩
 have hsplit:R=p++(ww++z):=by rw [hp,hw,hz];exact win_open R i (m+3)
 have lp:p.length=i:=by rw [hp,List.length_take];omega
 have lw:ww.length=m+3:=by rw [hw,List.length_take,List.length_drop];omega
 have dw:Lims ww:=by rw [hw];exact (lims_drop hdR i).take _
 obtain ⟨hr1,hr2⟩:=hroom
 rw [show m+2+1=m+3 by omega] at hr1 hr2
 rw [←hw] at hr1
 rw [←hz] at hr2
 refine Wl.re 93 rfl (show _=Value.slice (some ⟨b2,p.length,none⟩) ww.length (c2 - i) by
  rw [ei,lp,lw]
  show Value.slice (if c2=i then (some ⟨b2,0,none⟩:Option Addr) else (some ⟨b2,0,none⟩:Option Addr).map (·.add (i*1))) _ _=_
  rw [if_neg (by omega),Option.map_some,add_lit,Nat.mul_one,Nat.zero_add]
  congr 1
  omega) ?_
 refine Wl.reH 40 (Row 215 (p++(ww++z)) j2) rfl (by rw [←hsplit]) ?_
 refine Wl.k 40 rfl (c251 _ b2 p ww z j2 _ _ _ sm3 m (by assumption) dw hsl3 (by omega) lw hvl hvt hr1) (fun r9 G9 Ho9 hle9 hp9=>?_)
 obtain ⟨w9,g9,rfl,rfl,rfl,hg1,hg2,hwl,hwd,hwv,hwlt⟩:=hp9
 refine Wl.q rfl (Qy.indexAddrO (α:=U32) T.sl123 rfl rfl (by assumption) (by omega)) ?_
 refine Wl.setO (z:=_) 41 T.size215 rfl rfl rfl (by assumption) (by omega) rfl (fun ho1=>?_)
 refine Wl.ga 8 [] ?_
 have lz:z.length=R.length - (i+(m+3)):=by rw [hz,List.length_drop]
 have dz:Lims z:=by rw [hz];exact lims_drop hdR _
 have dp:Lims p:=by rw [hp];exact hdR.take _
 have hwin:=win_val p ww w9 z (by omega)
 rw [←hsplit,lp,hwv,show valB ww - g9*valB sm3 - valB ww=-(g9*valB sm3) by omega] at hwin
 have lR:(p++(w9++z)).length=uL.length:=by rw [List.length_append,List.length_append];omega
 refine Ar.re 17 rfl (show _=Value.int .i64 ((i:Int) - 1) by congr 1;omega) ?_
 refine Ar.reH 41 (Row 215 (q.set i (⟨g9⟩:U32)) []) rfl (by rw [ei]) ?_
 refine Ar.re 16 rfl (show _=Value.slice (some ⟨b3,0,none⟩) (q.set i (⟨g9⟩:U32)).length N by rw [List.length_set]) ?_
 refine Ar.re 13 rfl (show _=Value.slice (some ⟨b2,0,none⟩) (p++(w9++z)).length c2 by rw [lR,hRn]) ?_
 refine Ar.again ((i,q.set i (⟨g9⟩:U32),p++(w9++z))) ?_ ?_ rfl ⟨rfl,rfl,rfl,rfl,rfl,rfl,rfl,rfl,rfl,trivial⟩ ⟨rfl,rfl,rfl,trivial⟩
 · refine ⟨by omega,by rw [List.length_set];exact hqN,lims_set hdq _ ⟨hg1,hg2⟩,lR,dp.append (hwd.append dz),quo_next (q:=0) (by omega) (hqz i (by omega)) hval hwin,?_,fun j hj=>by rw [lg_set_ne (by omega)];exact hqz j (by omega)⟩
   rw [List.drop_append_of_le_length (by omega),List.drop_eq_nil_of_le (by omega),List.nil_append,valB_append,hr2,Int.mul_zero,Int.add_zero]
   exact hwlt
 show i<i+1
 omega
end Go.Proofs.YtfdcckcadfhpeaaGreatDoor
namespace Go.Proofs.YtfdcckcadfhpeaaGreatDoor
open Go Go.Sl
set_option maxHeartbeats 4000000
theorem IsBig.make {neg:Bool} {m:List U32} (hd:Lims m) (ht:Top m):IsBig (neg && decide (0<m.length)) m (if neg=true then -valB m else valB m):=by
 refine ⟨hd,ht,fun e=>by rw [e];simp,?_⟩
 by_cases h:0<m.length
 · simp [h]
 have e:m=[]:=List.eq_nil_of_length_eq_zero (by omega)
 rw [e];simp [valB_nil]
theorem Big.make {G:Imm} {b:Option Addr} {c:Nat} {m:List U32} (neg:Bool) (hA:Arr G b m) (hd:Lims m) (ht:Top m) (hc:m.length≤c) {z:Int} (hz:z=if neg=true then -valB m else valB m):Big G ⟨neg && decide (0<m.length),b,m.length,c⟩ z:=
 ⟨m,rfl,hc,hA,hz▸IsBig.make hd ht⟩
theorem Big.len {G:Imm} {x:IV} {z:Int} (h:Big G x z) {m:Nat} (hz:(z.natAbs:Int)<pb m):x.n≤m:=by
 obtain ⟨l,h1,_,_,h4⟩:=h
 rw [←h1];exact h4.len hz
theorem Big.out {G:Imm} {x:IV} {z z':Int} (h:Big G x z) (e:z=z'):Big G x z':=e▸h
def sgZ (z:Int):Int:=if z=0 then 0 else if z<0 then -1 else 1
theorem sgZ_lt {z:Int} (h:z<0):sgZ z=-1:=by unfold sgZ;rw [if_neg (by omega),if_pos h]
theorem sgZ_gt {z:Int} (h:0<z):sgZ z=1:=by unfold sgZ;rw [if_neg (by omega),if_neg (by omega)]
theorem sgZ_eq {z:Int} (h:z=0):sgZ z=0:=by unfold sgZ;rw [if_pos h]
attribute [local irreducible] valB pb cmpZ lstWp
theorem c133 (G:Imm) (neg:Bool) (a:Option Addr) (n c:Nat) (hn:n≤1099511627776) :
 Does Tryz.prog 133 [.bool neg,.slice a n c] G [] (fun v G' Ho=>v=.agg #[.bool (neg && decide (0<n)),.slice a n c]∧G'=G∧Ho=[]):=by
 refine Does.enter Tryz.func133 rfl Tryz.ntmps133 rfl (fun w=>?_)
 have e:((0:Int)<(n:Int))=(0<n):=by rw [eq_iff_iff];omega
 cases neg
 · refine Wc.gl 2 [] ?_
   refine Wl.alloc 0 rfl T.zero125 (fun b1=>?_)
   refine Wl.gl 11 [] ?_
   refine Wl.q rfl (Qy.build (cs:=[_,_]) T.st125 rfl rfl rfl) ?_
   refine Wl.ga 4 [0] ?_
   refine Ar.out1 (.inr rfl) (Ho:=Hp.only _ []) rfl (.agg 0 rfl rfl T.agg125) (Hp.sub_only _ _) ?_
   exact ⟨by simp only [Bool.false_and],rfl,rfl⟩
 refine Wc.gl 2 [] ?_
 refine Wl.alloc 0 rfl T.zero125 (fun b1=>?_)
 refine Wl.gl 14 [] ?_
 refine Wl.q rfl (Qy.build (cs:=[_,_]) T.st125 rfl rfl rfl) ?_
 refine Wl.ga 4 [0] ?_
 refine Ar.out1 (.inr rfl) (Ho:=Hp.only _ []) rfl (.agg 0 rfl rfl T.agg125) (Hp.sub_only _ _) ?_
 exact ⟨by simp only [e,Bool.true_and],rfl,rfl⟩
theorem c139 (G:Imm) (neg:Bool) (a:Option Addr) (c:Nat) (l:List U32) (ha:Arr G a l) (hd:Lims l) (hb:l.length≤1073741824) (hc:l.length≤c) :
 Does Tryz.prog 139 [.bool neg,.slice a l.length c] G [] (fun v G' Ho=>∃ r:IV,v=.agg (Cells.enc r).toArray∧Big G' r (if neg=true then -valB l else valB l)∧Ho=[]):=by
 refine Does.enter Tryz.func139 rfl Tryz.ntmps139 rfl (fun w=>?_)
 refine Wc.gl 2 [] ?_
 refine Wl.alloc 0 rfl T.zero125 (fun b1=>?_)
 refine Wl.gl 6 [] ?_
 refine Wl.k 1 rfl (c185 _ _ _ _ (by assumption) (by first | omega | (simp only [List.length_cons,List.length_nil];omega)) (by first | omega | (simp only [List.length_cons,List.length_nil];omega))) (fun v1 G1 Ho1 hle1 hp=>?_)
 obtain ⟨na1,nm1,rfl,hna1,hne1,hnt1,hnl1,rfl⟩:=hp
 replace ha:=ha.up hle1
 refine Wl.k0 rfl (c133 _ _ _ _ _ (by omega)) ?_
 refine Wl.ga 4 [0] ?_
 refine Ar.out1 (.inr rfl) (Ho:=Hp.only _ []) rfl (.agg 0 rfl rfl T.agg125) (Hp.sub_only _ _) ?_
 refine ⟨⟨neg && decide (0<nm1.length),na1,nm1.length,nm1.length⟩,rfl,Big.make neg hna1 (trim_lims hne1 hd) (trim_top hne1 hnt1) (Nat.le_refl _) (by rw [trim_val hne1 hnt1]),rfl⟩
theorem c180 (G:Imm) (neg:Bool) (a:Option Addr) (c:Nat) (l:List U32) (z:Int) (h:IsBig neg l z) (h1:l.length≤1073741824) :
 Does Tryz.prog 180 [.agg #[.bool neg,.slice a l.length c]] G [] (fun v G' Ho=>v=.int .i64 (sgZ z)∧G'=G∧Ho=[]):=by
 have hz:=h.zero_iff
 have hn:=h.neg_iff
 refine Does.enter Tryz.func180 rfl Tryz.ntmps180 rfl (fun w=>?_)
 by_cases h0:l.length=0
 · have hz0:=hz.1 h0
   refine Wc.gl 2 [] ?_
   refine Wl.box 0 rfl rfl rfl (fun b1=>?_)
   refine Wl.ga 23 [0,1] ?_
   refine Ar.e1 ?_
   exact ⟨by rw [hz0];rfl,rfl,rfl⟩
 have hz0:z≠0:=fun e=>h0 (hz.2 e)
 by_cases hs:z<0
 · rw [hn,decide_eq_true hs]
   refine Wc.gl 2 [] ?_
   refine Wl.box 0 rfl rfl rfl (fun b1=>?_)
   refine Wl.ga 31 [0,0,0,1] ?_
   refine Ar.e1 ?_
   exact ⟨by unfold sgZ;rw [if_neg hz0,if_pos hs],rfl,rfl⟩
 rw [hn,decide_eq_false hs]
 refine Wc.gl 2 [] ?_
 refine Wl.box 0 rfl rfl rfl (fun b1=>?_)
 refine Wl.ga 32 [0,0,0,0] ?_
 refine Ar.e1 ?_
 exact ⟨by unfold sgZ;rw [if_neg hz0,if_neg hs],rfl,rfl⟩
theorem c176 (G:Imm) (x:IV) (z:Int) (hx:Big G x z) (h1:x.n≤1073741824) :
 Does Tryz.prog 176 [.agg (Cells.enc x).toArray] G [] (fun v G' Ho=>∃ r:IV,v=.agg (Cells.enc r).toArray∧Big G' r (-z)∧G'=G∧Ho=[]):=by
 obtain ⟨neg,a,n,c⟩:=x
 obtain ⟨l,hl,hlc,hA,hI⟩:=hx
 simp only at hl hlc hA hI h1
 subst hl
 show Does Tryz.prog 176 [.agg #[.bool neg,.slice a l.length c]] G [] _
 refine Does.enter Tryz.func176 rfl Tryz.ntmps176 rfl (fun w=>?_)
 refine Wc.gl 2 [] ?_
 refine Wl.box 0 rfl rfl rfl (fun b1=>?_)
 refine Wl.alloc 1 rfl T.zero125 (fun b2=>?_)
 refine Wl.gl 9 [0,0] ?_
 refine Wl.k0 rfl (c133 _ _ _ _ _ (by omega)) ?_
 refine Wl.ga 4 [1] ?_
 refine Ar.out1 (.inr rfl) (Ho:=Hp.only _ []) rfl (.agg 1 rfl rfl T.agg125) (Hp.sub_only _ _) ?_
 refine ⟨⟨!neg && decide (0<l.length),a,l.length,c⟩,rfl,Big.make (!neg) hA hI.digs hI.top hlc ?_,rfl,rfl⟩
 rw [hI.val];cases neg <;> simp
theorem c223 (G:Imm) (x:IV) (z:Int) (hx:Big G x z) (h1:x.n≤1073741824) :
 Does Tryz.prog 223 [.agg (Cells.enc x).toArray] G [] (fun v G' Ho=>∃ r:IV,v=.agg (Cells.enc r).toArray∧Big G' r (z.natAbs:Int)∧G'=G∧Ho=[]):=by
 obtain ⟨neg,a,n,c⟩:=x
 obtain ⟨l,hl,hlc,hA,hI⟩:=hx
 simp only at hl hlc hA hI h1
 subst hl
 show Does Tryz.prog 223 [.agg #[.bool neg,.slice a l.length c]] G [] _
 refine Does.enter Tryz.func223 rfl Tryz.ntmps223 rfl (fun w=>?_)
 refine Wc.gl 2 [] ?_
 refine Wl.box 0 rfl rfl rfl (fun b1=>?_)
 refine Wl.alloc 1 rfl T.zero125 (fun b2=>?_)
 refine Wl.gl 6 [0] ?_
 refine Wl.k0 rfl (c133 _ _ _ _ _ (by omega)) ?_
 refine Wl.ga 4 [1] ?_
 refine Ar.out1 (.inr rfl) (Ho:=Hp.only _ []) rfl (.agg 1 rfl rfl T.agg125) (Hp.sub_only _ _) ?_
 refine ⟨⟨false && decide (0<l.length),a,l.length,c⟩,rfl,Big.make false hA hI.digs hI.top hlc ?_,rfl,rfl⟩
 rw [if_neg (by decide),hI.abs]
theorem big_sign (G:Imm) (x:IV) (z:Int) (hx:Big G x z) (h1:x.n≤1073741824) :
 Does Tryz.prog 180 [.agg (Cells.enc x).toArray] G [] (fun v G' Ho=>v=.int .i64 (sgZ z)∧G'=G∧Ho=[]):=by
 obtain ⟨n1,a,k1,ca⟩:=x
 obtain ⟨la,hl,hlc,hA,hI⟩:=hx
 simp only at hl hlc hA hI h1
 subst hl
 exact c180 G n1 a ca la z hI h1
theorem c137 (G:Imm) (x y:IV) (zx zy:Int) (hx:Big G x zx) (hy:Big G y zy) (h1:x.n≤1073741824) (h2:y.n≤1073741824) :
 Does Tryz.prog 137 [.agg (Cells.enc x).toArray,.agg (Cells.enc y).toArray] G [] (fun v G' Ho=>v=.int .i64 (cmpZ zx zy)∧G'=G∧Ho=[]):=by
 obtain ⟨n1,a,k1,ca⟩:=x
 obtain ⟨n2,b,k2,cb⟩:=y
 obtain ⟨la,hl,hlc,hA,hI⟩:=hx
 obtain ⟨lb,hl',hlc',hA',hI'⟩:=hy
 simp only at hl hlc hA hI hl' hlc' hA' hI' h1 h2
 subst hl hl'
 have da:=hI.digs
 have db:=hI'.digs
 have ta:=hI.top
 have tb:=hI'.top
 have va:=hI.abs
 have vb:=hI'.abs
 have na:=hI.neg_iff
 have nb:=hI'.neg_iff
 have cs:∀ u v:Int,u<v→cmpZ u v=-1:=fun u v h=>cmpZ_lt h
 have cg:∀ u v:Int,v<u→cmpZ u v=1:=fun u v h=>cmpZ_gt h
 show Does Tryz.prog 137 [.agg #[.bool n1,.slice a la.length ca],.agg #[.bool n2,.slice b lb.length cb]] G [] _
 refine Does.enter Tryz.func137 rfl Tryz.ntmps137 rfl (fun w=>?_)
 by_cases sx:zx<0 <;> by_cases sy:zy<0
 · rw [na,nb,decide_eq_true sx,decide_eq_true sy]
   refine Wc.gl 2 [] ?_
   refine Wl.box 0 rfl rfl rfl (fun b1=>?_)
   refine Wl.box 1 rfl rfl rfl (fun b2=>?_)
   refine Wl.gl 25 [0,1,1,1,0] ?_
   refine Wl.k0 rfl (c182 _ _ _ _ _ _ _ (by assumption) (by assumption) (by assumption) (by assumption) (by omega) (by omega) (by omega) (by omega)) ?_
   refine Wl.ga 6 [] ?_
   refine Ar.e1 ?_
   exact ⟨by rw [cmpZ_congr (x:=valB lb) (y:=valB la) (u:=zx) (v:=zy) (by omega) (by omega)],rfl,rfl⟩
 · rw [na,nb,decide_eq_true sx,decide_eq_false sy]
   refine Wc.gl 2 [] ?_
   refine Wl.box 0 rfl rfl rfl (fun b1=>?_)
   refine Wl.box 1 rfl rfl rfl (fun b2=>?_)
   refine Wl.ga 35 [0,1,0,0,1] ?_
   refine Ar.e1 ?_
   exact ⟨by rw [cs zx zy (by omega)],rfl,rfl⟩
 · rw [na,nb,decide_eq_false sx,decide_eq_true sy]
   refine Wc.gl 2 [] ?_
   refine Wl.box 0 rfl rfl rfl (fun b1=>?_)
   refine Wl.box 1 rfl rfl rfl (fun b2=>?_)
   refine Wl.ga 41 [0,0,0,0,1,1] ?_
   refine Ar.e1 ?_
   exact ⟨by rw [cg zx zy (by omega)],rfl,rfl⟩
 rw [na,nb,decide_eq_false sx,decide_eq_false sy]
 refine Wc.gl 2 [] ?_
 refine Wl.box 0 rfl rfl rfl (fun b1=>?_)
 refine Wl.box 1 rfl rfl rfl (fun b2=>?_)
 refine Wl.gl 42 [0,0,0,0,1,0,0,1] ?_
 refine Wl.k0 rfl (c182 _ _ _ _ _ _ _ (by assumption) (by assumption) (by assumption) (by assumption) (by omega) (by omega) (by omega) (by omega)) ?_
 refine Wl.ga 4 [] ?_
 refine Ar.e1 ?_
 exact ⟨by rw [cmpZ_congr (x:=valB la) (y:=valB lb) (u:=zx) (v:=zy) (by omega) (by omega)],rfl,rfl⟩
theorem c75 (G:Imm) (x y:IV) (zx zy:Int) (hx:Big G x zx) (hy:Big G y zy) (h1:x.n≤536870912) (h2:y.n≤536870912) :
 Does Tryz.prog 75 [.agg (Cells.enc x).toArray,.agg (Cells.enc y).toArray] G [] (fun v G' Ho=>∃ r:IV,v=.agg (Cells.enc r).toArray∧Big G' r (zx*zy)∧Ho=[]):=by
 obtain ⟨n1,a,k1,ca⟩:=x
 obtain ⟨n2,b,k2,cb⟩:=y
 obtain ⟨la,hl,hlc,hA,hI⟩:=hx
 obtain ⟨lb,hl',hlc',hA',hI'⟩:=hy
 simp only at hl hlc hA hI hl' hlc' hA' hI' h1 h2
 subst hl hl'
 have da:=hI.digs
 have db:=hI'.digs
 have ta:=hI.top
 have tb:=hI'.top
 show Does Tryz.prog 75 [.agg #[.bool n1,.slice a la.length ca],.agg #[.bool n2,.slice b lb.length cb]] G [] _
 refine Does.enter Tryz.func75 rfl Tryz.ntmps75 rfl (fun w=>?_)
 refine Wc.gl 2 [] ?_
 refine Wl.box 0 rfl rfl rfl (fun b1=>?_)
 refine Wl.box 1 rfl rfl rfl (fun b2=>?_)
 refine Wl.alloc 2 rfl T.zero125 (fun b3=>?_)
 refine Wl.gc 3 [] ?_
 refine Wc.draw [0,1,2] [(2,11)] T.mixed rfl ?_
 refine Gm.c 0 [] [] ?_
 refine Gm.c 1 [0] [0] ?_
 refine Gm.c 2 [] [] ?_
 refine Gm.c 3 [1] [1] ?_
 refine Gm.u 4 [] rfl (Qy.neqB T.u4 rfl rfl) ?_
 refine Gm.c 5 [] [] ?_
 refine Gm.c 6 [0] [0] ?_
 refine Gm.c 7 [] [] ?_
 refine Gm.c 8 [1] [1] ?_
 refine Gm.o1 9 ?_
 refine Wl.k 3 rfl (c134 _ _ _ _ _ _ _ (by assumption) (by assumption) (by assumption) (by assumption) (by omega) (by omega)) (fun v1 G1 Ho1 hle1 hp=>?_)
 obtain ⟨⟨ra1,rm1,rfl,hra1,hrl1,hrt1,hrv1,hrn1⟩,rfl⟩:=hp
 replace hA:=hA.up hle1
 replace hA':=hA'.up hle1
 refine Wl.on0 ?_
 refine Gm.o1 10 ?_
 refine Wl.k0 rfl (c133 _ _ _ _ _ (by omega)) ?_
 refine Wl.on0 ?_
 refine Gm.o1 11 ?_
 refine Wl.storeAll 2 T.size125 rfl rfl rfl rfl rfl rfl ?_
 refine Wl.on0 ?_
 refine Gm.fin ?_
 refine Ar.ga 2 [] ?_
 refine Ar.out1 (.inr rfl) (Ho:=Hp.only _ []) rfl (.agg 2 rfl rfl T.agg125) (Hp.sub_only _ _) ?_
 refine ⟨⟨decide (n1≠n2) && decide (0<rm1.length),ra1,rm1.length,rm1.length⟩,rfl,Big.make (decide (n1≠n2)) hra1 hrl1 hrt1 (Nat.le_refl _) ?_,rfl⟩
 rw [hrv1,hI.val,hI'.val]
 cases n1 <;> cases n2 <;> simp [Int.neg_mul,Int.mul_neg]
end Go.Proofs.YtfdcckcadfhpeaaGreatDoor
namespace Go.Proofs.YtfdcckcadfhpeaaGreatDoor
open Go Go.Sl
set_option maxHeartbeats 4000000
theorem wrap_neg {n:Int} (h:-9223372036854775808≤n∧n<0):IntKind.u64.wrap (0 - IntKind.u64.wrap n)=-n:=by
 rw [IntKind.wrap_u64,IntKind.wrap_u64];omega
theorem two_val (u:Int):valB [(⟨u % 4294967296⟩:U32),⟨u / 4294967296⟩]=u:=by
 rw [valB_cons,valB_cons,valB_nil]
 show u % 4294967296+4294967296*(u / 4294967296+4294967296*0)=u
 omega
theorem two_lims {u:Int} (h:0≤u∧u<18446744073709551616):Lims [(⟨u % 4294967296⟩:U32),⟨u / 4294967296⟩]:=by
 intro d hd
 simp only [List.mem_cons,List.mem_nil_iff,or_false] at hd
 rcases hd with rfl | rfl
 · exact mod32 u
 show 0≤u / 4294967296∧u / 4294967296<4294967296
 omega
theorem Big.lt {G:Imm} {x:IV} {z:Int} (h:Big G x z):(z.natAbs:Int)<pb x.n:=by
 obtain ⟨l,h1,_,_,h4⟩:=h
 rw [←h4.abs,←h1];exact valB_lt h4.digs
attribute [local irreducible] valB pb cmpZ lstWp
theorem c78 (G:Imm) (n:Int) (hn:-9223372036854775808≤n∧n≤9223372036854775807) :
 Does Tryz.prog 78 [.int .i64 n] G [] (fun v G' Ho=>∃ r:IV,v=.agg (Cells.enc r).toArray∧Big G' r n∧Ho=[]):=by
 refine Does.enter Tryz.func78 rfl Tryz.ntmps78 rfl (fun w=>?_)
 refine Wc.gl 2 [] ?_
 refine Wl.alloc 0 rfl T.zero125 (fun b1=>?_)
 refine Wl.gl 5 [] ?_
 refine Wl.q rfl (Qy.conv rfl T.u214 rfl) ?_
 refine Wl.gc 3 [] ?_
 refine Wc.meet (ι:=Int) (fun u=>([(0,.int .i64 n),(2,.pointer (some ⟨b1,0,none⟩)),(3,.int .u64 u)],[(0,some b1,.cells #[.bool false,.slice none 0 0] 125)])) (fun u=>0≤u∧u<18446744073709551616∧n=if decide (n<0)=true then -u else u) ?_ (fun u=>fun (hk:0≤u∧u<18446744073709551616∧n=if decide (n<0)=true then -u else u)=>?_)
 · by_cases hneg:n<0
   · refine Wc.gl 9 [1] ?_
     refine Wl.q rfl (Qy.negW rfl) ?_
     refine Wl.ga 2 [] ?_
     refine Ar.re 3 rfl (show _=Value.int .u64 (-n) by rw [wrap_neg ⟨hn.1,hneg⟩]) ?_
     refine Ar.meet (-n) ?_ rfl ⟨rfl,rfl,rfl,trivial⟩ ⟨rfl,trivial⟩
     exact ⟨by omega,by omega,by rw [if_pos (by simpa using hneg)];omega⟩
   refine Wc.ga 8 [0] ?_
   refine Ar.re 3 rfl (show _=Value.int .u64 n by rw [IntWalk.u64_in _ (by omega)]) ?_
   refine Ar.meet (n) ?_ rfl ⟨rfl,rfl,rfl,trivial⟩ ⟨rfl,trivial⟩
   exact ⟨by omega,by omega,by rw [if_neg (by simpa using hneg)]⟩
 obtain ⟨hu0,hu1,hun⟩:=hk
 refine Wc.gl 5 [] ?_
 refine Wl.q rfl (Qy.trunc32 rfl T.u215 rfl) ?_
 refine Wl.q rfl (Qy.move rfl) ?_
 refine Wl.q rfl (Qy.shr32 rfl rfl (by omega)) ?_
 refine Wl.q rfl (Qy.conv32 rfl T.u215 rfl (by omega)) ?_
 refine Wl.lit (α:=U32) 1 [⟨u % 4294967296⟩,⟨u / 4294967296⟩] rfl T.sl123 T.el215 rfl rfl rfl rfl rfl (fun b2=>?_)
 have hd:=two_lims ⟨hu0,hu1⟩
 refine Wl.freezeRow 1 rfl (OwnA.made (xs:=[(⟨u % 4294967296⟩:U32),⟨u / 4294967296⟩]) (by simp [maxLen])) (fun G9 hle9 hA9=>?_)
 refine Wl.k 2 rfl (c139 _ _ _ _ _ (by assumption) (by assumption) (by first | omega | (simp only [List.length_cons,List.length_nil];omega)) (by first | omega | (simp only [List.length_cons,List.length_nil];omega))) (fun v1 G1 Ho1 hle1 hp=>?_)
 obtain ⟨r1,rfl,hr1,rfl⟩:=hp
 replace hA9:=hA9.up hle1
 refine Wl.ga 4 [0] ?_
 refine Ar.out1 (.inr rfl) (Ho:=Hp.only _ []) rfl (.agg 0 rfl rfl T.agg125) (Hp.sub_only _ _) ?_
 exact ⟨_,rfl,Big.out hr1 (by rw [two_val];exact hun.symm),rfl⟩
theorem c138 (G:Imm) (x y:IV) (zx zy:Int) (hx:Big G x zx) (hy:Big G y zy) (h1:x.n≤536870912) (h2:y.n≤536870912) :
 Does Tryz.prog 138 [.agg (Cells.enc x).toArray,.agg (Cells.enc y).toArray] G [] (fun v G' Ho=>∃ r:IV,v=.agg (Cells.enc r).toArray∧Big G' r (zx+zy)∧Ho=[]):=by
 obtain ⟨n1,a,k1,ca⟩:=x
 obtain ⟨n2,b,k2,cb⟩:=y
 obtain ⟨la,hl,hlc,hA,hI⟩:=hx
 obtain ⟨lb,hl',hlc',hA',hI'⟩:=hy
 simp only at hl hlc hA hI hl' hlc' hA' hI' h1 h2
 subst hl hl'
 have da:=hI.digs
 have db:=hI'.digs
 have ta:=hI.top
 have tb:=hI'.top
 have len_le:∀ {l m:List U32},Lims l→Lims m→Top m→valB m≤valB l→m.length≤l.length:=fun {l m} hl hm tm h=>by
  rcases Nat.lt_or_ge l.length m.length with h1 | h1
  · have:=ltop_lt_len hl hm tm h1;omega
  exact h1
 show Does Tryz.prog 138 [.agg #[.bool n1,.slice a la.length ca],.agg #[.bool n2,.slice b lb.length cb]] G [] _
 refine Does.enter Tryz.func138 rfl Tryz.ntmps138 rfl (fun w=>?_)
 by_cases hs:n1=n2
 · refine Wc.gl 2 [] ?_
   refine Wl.box 0 rfl rfl rfl (fun b1=>?_)
   refine Wl.box 1 rfl rfl rfl (fun b2=>?_)
   refine Wl.alloc 2 rfl T.zero125 (fun b3=>?_)
   refine Wl.gl 9 [0,1] ?_
   refine Wl.q rfl (Qy.eqlB T.u4 rfl rfl) ?_
   refine Wl.gc 4 [1] ?_
   refine Wc.draw [0,1,2] [(2,8)] T.mixed rfl ?_
   refine Gm.c 0 [] [] ?_
   refine Gm.c 1 [0] [0] ?_
   refine Gm.c 2 [] [] ?_
   refine Gm.c 3 [0] [0] ?_
   refine Gm.c 4 [] [] ?_
   refine Gm.c 5 [1] [1] ?_
   refine Gm.o1 6 ?_
   refine Wl.k 3 rfl (c183 _ _ _ _ _ _ _ (by assumption) (by assumption) (by assumption) (by assumption) (by omega) (by omega)) (fun v1 G1 Ho1 hle1 hp=>?_)
   obtain ⟨⟨ra1,rm1,rfl,hra1,hrl1,hrt1,hrv1,hrn1⟩,rfl⟩:=hp
   replace hA:=hA.up hle1
   replace hA':=hA'.up hle1
   refine Wl.on0 ?_
   refine Gm.o1 7 ?_
   refine Wl.k0 rfl (c133 _ _ _ _ _ (by omega)) ?_
   refine Wl.on0 ?_
   refine Gm.o1 8 ?_
   refine Wl.storeAll 2 T.size125 rfl rfl rfl rfl rfl rfl ?_
   refine Wl.on0 ?_
   refine Gm.fin ?_
   refine Ar.ga 3 [] ?_
   refine Ar.out1 (.inr rfl) (Ho:=Hp.only _ []) rfl (.agg 2 rfl rfl T.agg125) (Hp.sub_only _ _) ?_
   all_goals
    refine ⟨⟨n1 && decide (0<rm1.length),ra1,rm1.length,rm1.length⟩,rfl,Big.make n1 hra1 hrl1 hrt1 (Nat.le_refl _) ?_,rfl⟩
    rw [hrv1,hI.val,hI'.val]
    revert hs
    cases n1 <;> cases n2 <;> simp <;> omega
 by_cases hle:valB lb≤valB la
 · have hcmp:¬cmpZ (valB la) (valB lb)<0:=fun h=>by have:=cmpZ_neg h;omega
   have hll:=len_le da db tb hle
   refine Wc.gl 2 [] ?_
   refine Wl.box 0 rfl rfl rfl (fun b1=>?_)
   refine Wl.box 1 rfl rfl rfl (fun b2=>?_)
   refine Wl.alloc 2 rfl T.zero125 (fun b3=>?_)
   refine Wl.gl 9 [0,1] ?_
   refine Wl.q rfl (Qy.eqlB T.u4 rfl rfl) ?_
   refine Wl.gl 12 [0,0,1] ?_
   refine Wl.k0 rfl (c182 _ _ _ _ _ _ _ (by assumption) (by assumption) (by assumption) (by assumption) (by omega) (by omega) (by omega) (by omega)) ?_
   refine Wl.gl 12 [0,0,1] ?_
   refine Wl.k 3 rfl (c184 _ _ _ _ _ _ _ (by assumption) (by assumption) (by assumption) (by assumption) (by omega) (by omega) (by omega) (by omega) (by omega)) (fun v1 G1 Ho1 hle1 hp=>?_)
   obtain ⟨rq1,rfl,⟨ra1,rm1,rfl,hra1,hrl1,hrt1,hrv1,hrn1⟩,rfl⟩:=hp
   replace hA:=hA.up hle1
   replace hA':=hA'.up hle1
   refine Wl.gl 12 [0] ?_
   refine Wl.k0 rfl (c133 _ _ _ _ _ (by omega)) ?_
   refine Wl.ga 4 [2] ?_
   refine Ar.out1 (.inr rfl) (Ho:=Hp.only _ []) rfl (.agg 2 rfl rfl T.agg125) (Hp.sub_only _ _) ?_
   refine ⟨⟨n1 && decide (0<rm1.length),ra1,rm1.length,rm1.length⟩,rfl,Big.make n1 hra1 hrl1 hrt1 (Nat.le_refl _) ?_,rfl⟩
   rw [hrv1,hI.val,hI'.val]
   revert hs
   cases n1 <;> cases n2 <;> simp <;> omega
 have hcmp:cmpZ (valB la) (valB lb)=-1:=cmpZ_lt (by omega)
 have hle':valB la≤valB lb:=by omega
 have hll:=len_le db da ta hle'
 refine Wc.gl 2 [] ?_
 refine Wl.box 0 rfl rfl rfl (fun b1=>?_)
 refine Wl.box 1 rfl rfl rfl (fun b2=>?_)
 refine Wl.alloc 2 rfl T.zero125 (fun b3=>?_)
 refine Wl.gl 9 [0,1] ?_
 refine Wl.q rfl (Qy.eqlB T.u4 rfl rfl) ?_
 refine Wl.gl 12 [0,0,1] ?_
 refine Wl.k0 rfl (c182 _ _ _ _ _ _ _ (by assumption) (by assumption) (by assumption) (by assumption) (by omega) (by omega) (by omega) (by omega)) ?_
 refine Wl.gl 17 [1,1,0,0,1,0,1] ?_
 refine Wl.k 3 rfl (c184 _ _ _ _ _ _ _ (by assumption) (by assumption) (by assumption) (by assumption) (by omega) (by omega) (by omega) (by omega) (by omega)) (fun v1 G1 Ho1 hle1 hp=>?_)
 obtain ⟨rq1,rfl,⟨ra1,rm1,rfl,hra1,hrl1,hrt1,hrv1,hrn1⟩,rfl⟩:=hp
 replace hA:=hA.up hle1
 replace hA':=hA'.up hle1
 refine Wl.gl 12 [0] ?_
 refine Wl.k0 rfl (c133 _ _ _ _ _ (by omega)) ?_
 refine Wl.ga 4 [2] ?_
 refine Ar.out1 (.inr rfl) (Ho:=Hp.only _ []) rfl (.agg 2 rfl rfl T.agg125) (Hp.sub_only _ _) ?_
 refine ⟨⟨n2 && decide (0<rm1.length),ra1,rm1.length,rm1.length⟩,rfl,Big.make n2 hra1 hrl1 hrt1 (Nat.le_refl _) ?_,rfl⟩
 rw [hrv1,hI.val,hI'.val]
 revert hs
 cases n1 <;> cases n2 <;> simp <;> omega
theorem c177 (G:Imm) (x y:IV) (zx zy:Int) (hx:Big G x zx) (hy:Big G y zy) (h1:x.n≤536870912) (h2:y.n≤536870912) :
 Does Tryz.prog 177 [.agg (Cells.enc x).toArray,.agg (Cells.enc y).toArray] G [] (fun v G' Ho=>∃ r:IV,v=.agg (Cells.enc r).toArray∧Big G' r (zx - zy)∧Ho=[]):=by
 refine Does.enter Tryz.func177 rfl Tryz.ntmps177 rfl (fun w=>?_)
 refine Wc.gl 2 [] ?_
 refine Wl.box 0 rfl rfl rfl (fun b1=>?_)
 refine Wl.box 1 rfl rfl rfl (fun b2=>?_)
 refine Wl.alloc 2 rfl T.zero125 (fun b3=>?_)
 refine Wl.gc 3 [] ?_
 refine Wc.draw [0,1,2] [(2,4)] T.mixed rfl ?_
 refine Gm.c 0 [0] [0] ?_
 refine Gm.c 1 [1] [1] ?_
 refine Gm.o1 2 ?_
 refine Wl.k 3 rfl (c176 _ _ _ hy (by omega)) (fun v1 G1 Ho1 hle1 hp=>?_)
 obtain ⟨nr1,rfl,hnr1,rfl,rfl⟩:=hp
 refine Wl.on0 ?_
 refine Gm.o1 3 ?_
 have hn1:nr1.n≤y.n:=Big.len hnr1 (by rw [Int.natAbs_neg];exact Big.lt hy)
 refine Wl.k 20 rfl (c138 _ x nr1 zx (-zy) hx hnr1 h1 (by omega)) (fun v2 G2 Ho2 hle2 hp=>?_)
 obtain ⟨r2,rfl,hr2,rfl⟩:=hp
 refine Wl.on0 ?_
 refine Gm.o1 4 ?_
 refine Wl.storeAll 2 T.size125 rfl rfl rfl rfl rfl rfl ?_
 refine Wl.on0 ?_
 refine Gm.fin ?_
 refine Ar.ga 2 [] ?_
 refine Ar.out1 (.inr rfl) (Ho:=Hp.only _ []) rfl (.agg 2 rfl rfl T.agg125) (Hp.sub_only _ _) ?_
 exact ⟨r2,rfl,Big.out hr2 (Int.sub_eq_add_neg).symm,rfl⟩
theorem pb_p2 (d s:Nat):pb d*((2 ^ s:Nat):Int)=((2 ^ (32*d+s):Nat):Int):=by
 unfold pb
 rw [←Int.natCast_mul]
 congr 1
 rw [show (4294967296:Nat)=2 ^ 32 by decide,←Nat.pow_mul,←Nat.pow_add]
theorem c247 (G:Imm) (x:IV) (zx:Int) (d s:Nat) (hx:Big G x zx) (h1:x.n≤536870912) (hs:s<32) (hd:d≤1000) :
 Does Tryz.prog 247 [.agg (Cells.enc x).toArray,.int .i64 ((32*d+s:Nat):Int)] G [] (fun v G' Ho=>∃ r:IV,v=.tuple #[.agg (Cells.enc r).toArray,.int .i64 0]∧Big G' r (zx*((2 ^ (32*d+s):Nat):Int))∧Ho=[]):=by
 obtain ⟨n1,a,k1,ca⟩:=x
 obtain ⟨la,hl,hlc,hA,hI⟩:=hx
 simp only at hl hlc hA hI h1
 subst hl
 have da:=hI.digs
 show Does Tryz.prog 247 [.agg #[.bool n1,.slice a la.length ca],.int .i64 ((32*d+s:Nat):Int)] G [] _
 refine Does.enter Tryz.func247 rfl Tryz.ntmps247 rfl (fun w=>?_)
 refine Wc.gl 2 [] ?_
 refine Wl.box 0 rfl rfl rfl (fun b1=>?_)
 refine Wl.alloc 1 rfl T.zero125 (fun b2=>?_)
 refine Wl.gl 8 [0] ?_
 refine Wl.k 2 rfl (c250 _ _ _ _ d s (by assumption) (by assumption) (by omega) hs hd) (fun v1 G1 Ho1 hle1 hp=>?_)
 obtain ⟨rq1,rfl,⟨ra1,rm1,rfl,hra1,hrl1,hrt1,hrv1,hrn1⟩,rfl⟩:=hp
 replace hA:=hA.up hle1
 refine Wl.gl 22 [0,0] ?_
 refine Wl.k0 rfl (c133 _ _ _ _ _ (by omega)) ?_
 refine Wl.ga 5 [1] ?_
 refine Ar.out2 (.inr rfl) (Ho:=Hp.only _ []) rfl (.agg 1 rfl rfl T.agg125) (.tmp rfl) (Hp.sub_only _ _) ?_
 refine ⟨⟨n1 && decide (0<rm1.length),ra1,rm1.length,rm1.length⟩,rfl,Big.make n1 hra1 hrl1 hrt1 (Nat.le_refl _) ?_,rfl⟩
 rw [hrv1,hI.val,pb_p2]
 cases n1
 · rw [if_neg (by decide),if_neg (by decide),Int.mul_comm]
 rw [if_pos rfl,if_pos rfl,Int.neg_mul,Int.mul_comm]
end Go.Proofs.YtfdcckcadfhpeaaGreatDoor
namespace Go.Sl
open Go
section
variable {B:Bs} {e:Env} {D:List Deferred} {H:Hp} {G:Imm}
theorem retagH {a:Act} {w:World} (hh:Hold B ⟨e,D,H,G⟩ a w) (t t':Nat) {k:Option Nat} {o:Obj} (ht:H.get t=some (k,o)) (hn:t≠t') (hk:H.get t'=none∨True):Hold B ⟨e,D,(t',k,o) :: (t,none,o) :: H,G⟩ a w:=by
 have key:∀ i b o',Hp.get ((t',k,o) :: (t,none,o) :: H) i=some (some b,o')→(i=t'∧H.get t=some (some b,o'))∨(i≠t'∧i≠t∧H.get i=some (some b,o')):=fun i b o' hx=>by
  rw [Hp.get_cons] at hx
  split at hx
  · rename_i hi;left;refine ⟨hi.symm,?_⟩;rw [ht];exact hx
  rename_i hi
  rw [Hp.get_cons] at hx
  split at hx
  · simp at hx
  rename_i hi2;exact .inr ⟨fun h=>hi h.symm,fun h=>hi2 h.symm,hx⟩
 refine ⟨hh.size,hh.defers,hh.env,⟨?_,?_,hh.mem.imm,?_⟩,hh.upd,?_,hh.le,hh.new⟩
 · intro i b o' hx
   rcases key i b o' hx with ⟨_,h⟩ | ⟨_,_,h⟩
   · exact hh.mem.own _ b o' h
   exact hh.mem.own _ b o' h
 · intro i i' b o1 o2 hx hy
   rcases key i b o1 hx with ⟨h1,h2⟩ | ⟨h1,h1',h2⟩ <;> rcases key i' b o2 hy with ⟨h3,h4⟩ | ⟨h3,h3',h4⟩
   · rw [h1,h3]
   · exact absurd (hh.mem.one _ _ b _ _ h2 h4).symm h3'
   · exact absurd (hh.mem.one _ _ b _ _ h2 h4) h1'
   exact hh.mem.one _ _ b _ _ h2 h4
 · intro i b o' hx
   rcases key i b o' hx with ⟨_,h⟩ | ⟨_,_,h⟩
   · exact hh.mem.off _ b o' h
   exact hh.mem.off _ b o' h
 intro i b o' hx
 rcases key i b o' hx with ⟨_,h⟩ | ⟨_,_,h⟩
 · exact hh.mine _ b o' h
 exact hh.mine _ b o' h
theorem Ar.retag {x:Exit} {Q:Exit→Act→World→Prop} (t t':Nat) {k:Option Nat} {o:Obj} (ht:H.get t=some (k,o)) (hn:Nat.beq t t'=false) (h:Ar Q x B ⟨e,D,(t',k,o) :: (t,none,o) :: H,G⟩):Ar Q x B ⟨e,D,H,G⟩:=
 fun a w hh=>h a w (retagH hh t t' ht (fun e=>by subst e;simp at hn) (.inr trivial))
end
end Go.Sl
namespace Go.Proofs.YtfdcckcadfhpeaaGreatDoor
open Go Go.Sl
set_option maxHeartbeats 4000000
theorem sgZ_bd (z:Int):-1≤sgZ z∧sgZ z≤1:=by unfold sgZ;split;exact ⟨by omega,by omega⟩;split <;> exact ⟨by omega,by omega⟩
theorem sgZ_bd9 (z:Int):-9223372036854775808≤sgZ z∧sgZ z≤9223372036854775807:=by have:=sgZ_bd z;omega
theorem sgZ_lt1 (z:Int):((sgZ z).natAbs:Int)<pb 1:=by have:=sgZ_bd z;have:pb 1=4294967296:=(by decide);omega
theorem sgZ_mul (z:Int):sgZ z*z=z.natAbs:=by
 unfold sgZ
 split
 · omega
 split <;> omega
theorem ediv_of {x y q r:Int} (hy:y≠0) (h:x=q*y+r) (h0:0≤r) (h1:r<y.natAbs):q=x / y∧r=x % y:=by
 rcases Int.lt_or_gt_of_ne hy with hn | hp
 · have:=(Int.ediv_emod_unique' (a:=x) (b:=y) (r:=r) (q:=q) hn).2 ⟨by rw [Int.mul_comm y q];omega,h0,by omega⟩
   exact ⟨this.1.symm,this.2.symm⟩
 have:=(Int.ediv_emod_unique (a:=x) (b:=y) (r:=r) (q:=q) hp).2 ⟨by rw [Int.mul_comm y q];omega,h0,by omega⟩
 exact ⟨this.1.symm,this.2.symm⟩
theorem dm_plain {n1 n2:Bool} {x y la lb lq lr:Int} (hx:x=if n1=true then -la else la) (hy:y=if n2=true then -lb else lb) (hv:la=lq*lb+lr) :
 x=(if decide (n1≠n2)=true then -lq else lq)*y+(if n1=true then -lr else lr):=by
 subst hx hy hv
 cases n1 <;> cases n2 <;> simp [Int.neg_mul,Int.mul_neg,Int.neg_add]
theorem dm_next {x y q r:Int} (h:x=q*y+r):x=(q - sgZ y)*y+(r+y.natAbs):=by
 have:=sgZ_mul y
 rw [Int.sub_mul,this];omega
theorem dm_true {n1:Bool} {m:List U32} {q x y:Int} (hx:x=q*y+(if n1=true then -valB m else valB m)) (hy:y≠0) (hl:valB m<y.natAbs) (h:(n1 && decide (0<m.length))=true) (ht:Top m) (hd:Lims m) :
 q - sgZ y=x / y∧(if n1=true then -valB m else valB m)+(y.natAbs:Int)=x % y:=by
 rw [Bool.and_eq_true,decide_eq_true_eq] at h
 have hp:=ltop_pos hd ht (fun e=>by have:=h.2;rw [e] at this;simp at this)
 have e:=h.1
 subst e
 rw [if_pos rfl] at hx ⊢
 exact ediv_of hy (dm_next hx) (by omega) (by omega)
theorem dm_false {n1:Bool} {m:List U32} {q x y:Int} (hx:x=q*y+(if n1=true then -valB m else valB m)) (hy:y≠0) (hl:valB m<y.natAbs) (h:(n1 && decide (0<m.length))=false) (hd:Lims m) :
 q=x / y∧(if n1=true then -valB m else valB m)=x % y:=by
 have hn:=valB_nonneg hd
 refine ediv_of hy hx ?_ ?_
 · cases n1 with
   | false=>rw [if_neg (by decide)];exact hn
   | true =>
     have h0:m=[]:=by
      rw [Bool.true_and,decide_eq_false_iff_not] at h
      exact List.eq_nil_of_length_eq_zero (by omega)
     rw [if_pos rfl,h0,valB_nil]
     omega
 split <;> omega
attribute [local irreducible] valB pb cmpZ lstWp
theorem c179 (G:Imm) (x y:IV) (zx zy:Int) (hx:Big G x zx) (hy:Big G y zy) (h1:x.n≤268435456) (h2:y.n≤268435456) (hy0:zy≠0) :
 Does Tryz.prog 179 [.agg (Cells.enc x).toArray,.agg (Cells.enc y).toArray] G [] (fun v G' Ho=>∃ q r:IV,v=.tuple #[.agg (Cells.enc q).toArray,.agg (Cells.enc r).toArray,.int .i64 0]∧Big G' q (zx / zy)∧Big G' r (zx % zy)∧Ho=[]):=by
 obtain ⟨n1,a,k1,ca⟩:=x
 obtain ⟨n2,b,k2,cb⟩:=y
 obtain ⟨la,hl,hlc,hA,hI⟩:=hx
 obtain ⟨lb,hl',hlc',hA',hI'⟩:=hy
 simp only at hl hlc hA hI hl' hlc' hA' hI' h1 h2
 subst hl hl'
 have da:=hI.digs
 have db:=hI'.digs
 have ta:=hI.top
 have tb:=hI'.top
 have h1':la.length≤536870912:=by omega
 have h2':lb.length≤536870912:=by omega
 have va:=hI.abs
 have vb:=hI'.abs
 have hlt:=valB_lt db
 have hB:0<valB lb:=by omega
 show Does Tryz.prog 179 [.agg #[.bool n1,.slice a la.length ca],.agg #[.bool n2,.slice b lb.length cb]] G [] _
 refine Does.enter Tryz.func179 rfl Tryz.ntmps179 rfl (fun w=>?_)
 refine Wc.gl 2 [] ?_
 refine Wl.box 0 rfl rfl rfl (fun b1=>?_)
 refine Wl.box 1 rfl rfl rfl (fun b2=>?_)
 refine Wl.alloc 2 rfl T.zero125 (fun b3=>?_)
 refine Wl.alloc 3 rfl T.zero125 (fun b4=>?_)
 refine Wl.gl 9 [0,1] ?_
 refine Wl.k 4 rfl (c222 _ _ _ _ _ _ _ (by assumption) (by assumption) da ta db h1' h2' hlc hlc' hB) (fun v1 G1 Ho1 hle1 hp=>?_)
 obtain ⟨_,_,rfl,⟨qa1,qm1,rfl,hqa1,hql1,hqt1,hqv1,hqn1⟩,⟨ra1,rm1,rfl,hra1,hrl1,hrt1,hrv1,hrn1⟩,rfl⟩:=hp
 replace hA:=hA.up hle1
 replace hA':=hA'.up hle1
 refine Wl.gc 19 [0] ?_
 refine Wc.meet (ι:=Nat×Nat) (fun (p,q)=>([(10,.pointer (some ⟨p,0,none⟩)),(11,.pointer (some ⟨q,0,none⟩)),(6,.int .i64 0),(5,.pointer (some (Addr.mk b4 0 none))),(4,.pointer (some (Addr.mk b3 0 none))),(3,.pointer (some ⟨b2,0,none⟩))],[(60,some p,.cells #[.bool (decide (n1≠n2) && decide (0<qm1.length)),.slice qa1 qm1.length qm1.length] 125),(61,some q,.cells #[.bool (n1 && decide (0<rm1.length)),.slice ra1 rm1.length rm1.length] 125),(3,some b4,.cells #[.bool Bool.false,.slice none 0 0] 125),(2,some b3,.cells #[.bool Bool.false,.slice none 0 0] 125),(1,some b2,.cells #[.bool n2,.slice b (List.length lb) cb] 125),(0,some b1,.cells #[.bool n1,.slice a (List.length la) ca] 125)])) (fun (p,q)=>True) ?_ (fun ⟨p,q⟩=>fun (hk:True)=>?_)
 · refine Wc.draw [0,1,2,3] [] T.mixed rfl ?_
   refine Gm.c 0 [] [] ?_
   refine Gm.c 1 [0] [0] ?_
   refine Gm.c 2 [] [] ?_
   refine Gm.c 3 [1] [1] ?_
   refine Gm.u 4 [] rfl (Qy.neqB T.u4 rfl rfl) ?_
   refine Gm.c 5 [] [] ?_
   refine Gm.c 7 [] [] ?_
   refine Gm.c 8 [0] [0] ?_
   refine Gm.c 9 [] [] ?_
   refine Gm.o3 6 11 12 ?_ ?_ ?_
   refine Wl.k0 rfl (c133 _ _ _ _ _ (by omega)) ?_
   refine Wl.on0 ?_
   refine Gm.o3 10 11 12 ?_ ?_ ?_
   refine Wl.k0 rfl (c133 _ _ _ _ _ (by omega)) ?_
   refine Wl.on0 ?_
   refine Gm.o2 11 12 ?_ ?_
   refine Wl.alloc 4 rfl T.zero125 (fun b5=>?_)
   refine Wl.on0 ?_
   refine Gm.o1 12 ?_
   refine Wl.alloc 5 rfl T.zero125 (fun b6=>?_)
   refine Wl.on0 ?_
   refine Gm.o1 13 ?_
   refine Wl.storeAll 4 T.size125 rfl rfl rfl rfl rfl rfl ?_
   refine Wl.on0 ?_
   refine Gm.o1 14 ?_
   refine Wl.storeAll 5 T.size125 rfl rfl rfl rfl rfl rfl ?_
   refine Wl.on0 ?_
   refine Gm.fin ?_
   rotate_left
   refine Wl.alloc 4 rfl T.zero125 (fun b5=>?_)
   refine Wl.on0 ?_
   refine Gm.o1 11 ?_
   refine Wl.alloc 5 rfl T.zero125 (fun b6=>?_)
   refine Wl.on0 ?_
   refine Gm.o1 13 ?_
   refine Wl.storeAll 5 T.size125 rfl rfl rfl rfl rfl rfl ?_
   refine Wl.on0 ?_
   refine Gm.o1 14 ?_
   refine Wl.storeAll 4 T.size125 rfl rfl rfl rfl rfl rfl ?_
   refine Wl.on0 ?_
   refine Gm.fin ?_
   rotate_left
   refine Wl.alloc 4 rfl T.zero125 (fun b5=>?_)
   refine Wl.on0 ?_
   refine Gm.o2 10 12 ?_ ?_
   refine Wl.k0 rfl (c133 _ _ _ _ _ (by omega)) ?_
   refine Wl.on0 ?_
   refine Gm.o1 12 ?_
   refine Wl.alloc 5 rfl T.zero125 (fun b6=>?_)
   refine Wl.on0 ?_
   refine Gm.o1 13 ?_
   refine Wl.storeAll 4 T.size125 rfl rfl rfl rfl rfl rfl ?_
   refine Wl.on0 ?_
   refine Gm.o1 14 ?_
   refine Wl.storeAll 5 T.size125 rfl rfl rfl rfl rfl rfl ?_
   refine Wl.on0 ?_
   refine Gm.fin ?_
   rotate_left
   refine Wl.alloc 5 rfl T.zero125 (fun b6=>?_)
   refine Wl.on0 ?_
   refine Gm.o1 10 ?_
   refine Wl.k0 rfl (c133 _ _ _ _ _ (by omega)) ?_
   refine Wl.on0 ?_
   refine Gm.o1 13 ?_
   refine Wl.storeAll 4 T.size125 rfl rfl rfl rfl rfl rfl ?_
   refine Wl.on0 ?_
   refine Gm.o1 14 ?_
   refine Wl.storeAll 5 T.size125 rfl rfl rfl rfl rfl rfl ?_
   refine Wl.on0 ?_
   refine Gm.fin ?_
   rotate_left
   refine Wl.alloc 4 rfl T.zero125 (fun b5=>?_)
   refine Wl.on0 ?_
   refine Gm.o2 10 11 ?_ ?_
   refine Wl.k0 rfl (c133 _ _ _ _ _ (by omega)) ?_
   refine Wl.on0 ?_
   refine Gm.o1 11 ?_
   refine Wl.alloc 5 rfl T.zero125 (fun b6=>?_)
   refine Wl.on0 ?_
   refine Gm.o1 13 ?_
   refine Wl.storeAll 5 T.size125 rfl rfl rfl rfl rfl rfl ?_
   refine Wl.on0 ?_
   refine Gm.o1 14 ?_
   refine Wl.storeAll 4 T.size125 rfl rfl rfl rfl rfl rfl ?_
   refine Wl.on0 ?_
   refine Gm.fin ?_
   rotate_left
   refine Wl.alloc 5 rfl T.zero125 (fun b6=>?_)
   refine Wl.on0 ?_
   refine Gm.o1 10 ?_
   refine Wl.k0 rfl (c133 _ _ _ _ _ (by omega)) ?_
   refine Wl.on0 ?_
   refine Gm.o1 13 ?_
   refine Wl.storeAll 5 T.size125 rfl rfl rfl rfl rfl rfl ?_
   refine Wl.on0 ?_
   refine Gm.o1 14 ?_
   refine Wl.storeAll 4 T.size125 rfl rfl rfl rfl rfl rfl ?_
   refine Wl.on0 ?_
   refine Gm.fin ?_
   rotate_left
   refine Wl.alloc 4 rfl T.zero125 (fun b5=>?_)
   refine Wl.on0 ?_
   refine Gm.o2 6 12 ?_ ?_
   refine Wl.k0 rfl (c133 _ _ _ _ _ (by omega)) ?_
   refine Wl.on0 ?_
   refine Gm.o2 10 12 ?_ ?_
   refine Wl.k0 rfl (c133 _ _ _ _ _ (by omega)) ?_
   refine Wl.on0 ?_
   refine Gm.o1 12 ?_
   refine Wl.alloc 5 rfl T.zero125 (fun b6=>?_)
   refine Wl.on0 ?_
   refine Gm.o1 13 ?_
   refine Wl.storeAll 4 T.size125 rfl rfl rfl rfl rfl rfl ?_
   refine Wl.on0 ?_
   refine Gm.o1 14 ?_
   refine Wl.storeAll 5 T.size125 rfl rfl rfl rfl rfl rfl ?_
   refine Wl.on0 ?_
   refine Gm.fin ?_
   rotate_left
   refine Wl.alloc 5 rfl T.zero125 (fun b6=>?_)
   refine Wl.on0 ?_
   refine Gm.o1 10 ?_
   refine Wl.k0 rfl (c133 _ _ _ _ _ (by omega)) ?_
   refine Wl.on0 ?_
   refine Gm.o1 13 ?_
   refine Wl.storeAll 4 T.size125 rfl rfl rfl rfl rfl rfl ?_
   refine Wl.on0 ?_
   refine Gm.o1 14 ?_
   refine Wl.storeAll 5 T.size125 rfl rfl rfl rfl rfl rfl ?_
   refine Wl.on0 ?_
   refine Gm.fin ?_
   rotate_left
   refine Wl.alloc 5 rfl T.zero125 (fun b6=>?_)
   refine Wl.on0 ?_
   refine Gm.o1 6 ?_
   refine Wl.k0 rfl (c133 _ _ _ _ _ (by omega)) ?_
   refine Wl.on0 ?_
   refine Gm.o1 10 ?_
   refine Wl.k0 rfl (c133 _ _ _ _ _ (by omega)) ?_
   refine Wl.on0 ?_
   refine Gm.o1 13 ?_
   refine Wl.storeAll 4 T.size125 rfl rfl rfl rfl rfl rfl ?_
   refine Wl.on0 ?_
   refine Gm.o1 14 ?_
   refine Wl.storeAll 5 T.size125 rfl rfl rfl rfl rfl rfl ?_
   refine Wl.on0 ?_
   refine Gm.fin ?_
   rotate_left
   refine Wl.alloc 4 rfl T.zero125 (fun b5=>?_)
   refine Wl.on0 ?_
   refine Gm.o2 6 11 ?_ ?_
   refine Wl.k0 rfl (c133 _ _ _ _ _ (by omega)) ?_
   refine Wl.on0 ?_
   refine Gm.o2 10 11 ?_ ?_
   refine Wl.k0 rfl (c133 _ _ _ _ _ (by omega)) ?_
   refine Wl.on0 ?_
   refine Gm.o1 11 ?_
   refine Wl.alloc 5 rfl T.zero125 (fun b6=>?_)
   refine Wl.on0 ?_
   refine Gm.o1 13 ?_
   refine Wl.storeAll 5 T.size125 rfl rfl rfl rfl rfl rfl ?_
   refine Wl.on0 ?_
   refine Gm.o1 14 ?_
   refine Wl.storeAll 4 T.size125 rfl rfl rfl rfl rfl rfl ?_
   refine Wl.on0 ?_
   refine Gm.fin ?_
   rotate_left
   refine Wl.alloc 5 rfl T.zero125 (fun b6=>?_)
   refine Wl.on0 ?_
   refine Gm.o1 10 ?_
   refine Wl.k0 rfl (c133 _ _ _ _ _ (by omega)) ?_
   refine Wl.on0 ?_
   refine Gm.o1 13 ?_
   refine Wl.storeAll 5 T.size125 rfl rfl rfl rfl rfl rfl ?_
   refine Wl.on0 ?_
   refine Gm.o1 14 ?_
   refine Wl.storeAll 4 T.size125 rfl rfl rfl rfl rfl rfl ?_
   refine Wl.on0 ?_
   refine Gm.fin ?_
   rotate_left
   refine Wl.alloc 5 rfl T.zero125 (fun b6=>?_)
   refine Wl.on0 ?_
   refine Gm.o1 6 ?_
   refine Wl.k0 rfl (c133 _ _ _ _ _ (by omega)) ?_
   refine Wl.on0 ?_
   refine Gm.o1 10 ?_
   refine Wl.k0 rfl (c133 _ _ _ _ _ (by omega)) ?_
   refine Wl.on0 ?_
   refine Gm.o1 13 ?_
   refine Wl.storeAll 5 T.size125 rfl rfl rfl rfl rfl rfl ?_
   refine Wl.on0 ?_
   refine Gm.o1 14 ?_
   refine Wl.storeAll 4 T.size125 rfl rfl rfl rfl rfl rfl ?_
   refine Wl.on0 ?_
   refine Gm.fin ?_
   rotate_left
   all_goals first | (refine Ar.retag 4 60 rfl rfl (Ar.retag 5 61 rfl rfl (Ar.meet (b5,b6) trivial rfl ?_ ?_)) <;> (repeat (first | exact trivial | refine ⟨rfl,?_⟩));done) | (refine Ar.retag 5 60 rfl rfl (Ar.retag 4 61 rfl rfl (Ar.meet (b6,b5) trivial rfl ?_ ?_)) <;> (repeat (first | exact trivial | refine ⟨rfl,?_⟩));done)
 have hxy:=dm_plain hI.val hI'.val (show valB la=valB qm1*valB lb+valB rm1 by rw [hqv1,hrv1,Int.mul_comm];exact (Int.mul_ediv_add_emod (valB la) (valB lb)).symm)
 have hrlt:valB rm1<valB lb:=by rw [hrv1];exact Int.emod_lt_of_pos _ hB
 have hQ0:=Big.make (decide (n1≠n2)) hqa1 hql1 hqt1 (Nat.le_refl _) rfl
 have hy2:Big G1 ⟨n2,b,lb.length,cb⟩ zy:=⟨lb,rfl,hlc',hA',hI'⟩
 have hR0:=Big.make n1 hra1 hrl1 hrt1 (Nat.le_refl _) rfl
 refine Wc.gc 7 [61] ?_
 refine Wc.ite rfl (fun hc1=>?_) (fun hc1=>?_)
 refine Wc.seq ?_
 refine Wc.draw [0,1,2,3,61,60] [(61,4)] T.mixed rfl ?_
 refine Gm.c 0 [61] [61] ?_
 refine Gm.c 1 [1] [1] ?_
 refine Gm.o1 2 ?_
 refine Wl.k 62 rfl (c223 _ ⟨n2,b,lb.length,cb⟩ zy hy2 (Nat.le_trans h2' (by decide))) (fun v2 G2 Ho2 hle2 hp=>?_)
 obtain ⟨nr2,rfl,hnr2,rfl,rfl⟩:=hp
 refine Wl.on0 ?_
 refine Gm.o1 3 ?_
 refine Wl.k 62 rfl (c138 _ ⟨(n1 && decide (0<rm1.length)),ra1,rm1.length,rm1.length⟩ nr2 _ _ hR0 hnr2 (Nat.le_trans hrn1 h2') (Nat.le_trans (Big.len hnr2 (m:=lb.length) (by omega)) h2')) (fun v3 G3 Ho3 hle3 hp=>?_)
 obtain ⟨rs3,rfl,hrs3,rfl⟩:=hp
 replace hnr2:=hnr2.up hle3
 replace hqa1:=hqa1.up hle3
 replace hra1:=hra1.up hle3
 replace hA:=hA.up hle3
 replace hA':=hA'.up hle3
 replace hQ0:=hQ0.up hle3
 replace hy2:=hy2.up hle3
 replace hR0:=hR0.up hle3
 refine Wl.on0 ?_
 refine Gm.o1 4 ?_
 refine Wl.storeAll 61 T.size125 rfl rfl rfl rfl rfl rfl ?_
 refine Wl.on0 ?_
 refine Gm.fin ?_
 refine Ar.next ?_
 refine Wc.draw [0,1,2,3,60,61] [(60,5)] T.mixed rfl ?_
 refine Gm.c 0 [60] [60] ?_
 refine Gm.c 1 [1] [1] ?_
 refine Gm.o1 2 ?_
 refine Wl.k0 rfl (c180 _ _ _ _ _ zy hI' (by omega)) ?_
 refine Wl.on0 ?_
 refine Gm.o1 3 ?_
 refine Wl.k 62 rfl (c78 _ _ (sgZ_bd9 zy)) (fun v4 G4 Ho4 hle4 hp=>?_)
 obtain ⟨ro4,rfl,hro4,rfl⟩:=hp
 replace hrs3:=hrs3.up hle4
 replace hnr2:=hnr2.up hle4
 replace hqa1:=hqa1.up hle4
 replace hra1:=hra1.up hle4
 replace hA:=hA.up hle4
 replace hA':=hA'.up hle4
 replace hQ0:=hQ0.up hle4
 replace hy2:=hy2.up hle4
 replace hR0:=hR0.up hle4
 refine Wl.on0 ?_
 refine Gm.o1 4 ?_
 refine Wl.k 62 rfl (c177 _ ⟨(decide (n1≠n2) && decide (0<qm1.length)),qa1,qm1.length,qm1.length⟩ ro4 _ _ hQ0 hro4 (Nat.le_trans hqn1 h1') (Nat.le_trans (Big.len hro4 (m:=1) (sgZ_lt1 zy)) (by decide))) (fun v5 G5 Ho5 hle5 hp=>?_)
 obtain ⟨rd5,rfl,hrd5,rfl⟩:=hp
 replace hro4:=hro4.up hle5
 replace hrs3:=hrs3.up hle5
 replace hnr2:=hnr2.up hle5
 replace hqa1:=hqa1.up hle5
 replace hra1:=hra1.up hle5
 replace hA:=hA.up hle5
 replace hA':=hA'.up hle5
 replace hQ0:=hQ0.up hle5
 replace hy2:=hy2.up hle5
 replace hR0:=hR0.up hle5
 refine Wl.on0 ?_
 refine Gm.o1 5 ?_
 refine Wl.storeAll 60 T.size125 rfl rfl rfl rfl rfl rfl ?_
 refine Wl.on0 ?_
 refine Gm.fin ?_
 refine Ar.gc 2 [] ?_
 refine Wc.draw [0,1,2,3,61,60] [(3,3),(2,2)] T.mixed rfl ?_
 refine Gm.c 0 [60] [60] ?_
 refine Gm.c 1 [61] [61] ?_
 refine Gm.o1 2 ?_
 refine Wl.storeAll 2 T.size125 rfl rfl rfl rfl rfl rfl ?_
 refine Wl.on0 ?_
 refine Gm.o1 3 ?_
 refine Wl.storeAll 3 T.size125 rfl rfl rfl rfl rfl rfl ?_
 refine Wl.on0 ?_
 refine Gm.c 4 [] [] ?_
 refine Gm.fin ?_
 refine Ar.ga 2 [] ?_
 refine Ar.out3 (.inr rfl) (Ho:=Hp.only _ []) rfl (.agg 2 rfl rfl T.agg125) (.agg 3 rfl rfl T.agg125) (.tmp rfl) (Hp.sub_only _ _) ?_
 rotate_left
 refine Wc.gc 3 [] ?_
 refine Wc.draw [0,1,2,3,61,60] [(3,3),(2,2)] T.mixed rfl ?_
 refine Gm.c 0 [60] [60] ?_
 refine Gm.c 1 [61] [61] ?_
 refine Gm.o1 2 ?_
 refine Wl.storeAll 2 T.size125 rfl rfl rfl rfl rfl rfl ?_
 refine Wl.on0 ?_
 refine Gm.o1 3 ?_
 refine Wl.storeAll 3 T.size125 rfl rfl rfl rfl rfl rfl ?_
 refine Wl.on0 ?_
 refine Gm.c 4 [] [] ?_
 refine Gm.fin ?_
 refine Ar.ga 2 [] ?_
 refine Ar.out3 (.inr rfl) (Ho:=Hp.only _ []) rfl (.agg 2 rfl rfl T.agg125) (.agg 3 rfl rfl T.agg125) (.tmp rfl) (Hp.sub_only _ _) ?_
 rotate_left
 · have he:=dm_true hxy hy0 (by omega) hc1 hrt1 hrl1
   refine ⟨rd5,rs3,rfl,?_,?_,rfl⟩
   · rw [←he.1];exact hrd5
   rw [←he.2];exact hrs3
 have he:=dm_false hxy hy0 (by omega) hc1 hrl1
 refine ⟨⟨(decide (n1≠n2) && decide (0<qm1.length)),qa1,qm1.length,qm1.length⟩,⟨(n1 && decide (0<rm1.length)),ra1,rm1.length,rm1.length⟩,rfl,?_,?_,rfl⟩
 · rw [←he.1];exact hQ0
 rw [←he.2];exact hR0
end Go.Proofs.YtfdcckcadfhpeaaGreatDoor
namespace Go.Proofs.YtfdcckcadfhpeaaGreatDoor
open Go Go.Sl
set_option maxHeartbeats 4000000
def TrimTo (l:List U32) (n:Nat):Prop:=n≤l.length∧(∀ j,n≤j→j<l.length→(l[j]?.getD default).v=0)∧(n=0∨(l[n - 1]?.getD default).v≠0)
theorem arr_sub {α:Type} [Cells α] {G:Imm} {a:Option Addr} {c sz:Nat} {l:List α} (h:Arr G a l) (n:Nat):Arr G (subA a c 0 sz) (l.take n):=by
 refine ⟨flat_length _,?_⟩
 rcases h.2 with h0 | ⟨b,o,rfl,hr⟩
 · left;rw [List.length_take];omega
 refine .inr ⟨b,o,?_,fun i v hi=>hr i v ?_⟩
 · unfold subA
   split
   · rfl
   simp [Addr.add]
 have e:flat l=flat (l.take n)++flat (l.drop n):=by rw [←flat_append,List.take_append_drop]
 rw [e,List.getElem?_append_left (List.getElem?_eq_some_iff.1 hi).1];exact hi
theorem c168 (G:Imm) (neg:Bool) (a:Option Addr) (c:Nat) (l:List U32) (hl:Arr G a l) (hb:l.length≤1099511627776) (hc:l.length≤c) :
 Does Tryz.prog 168 [.bool neg,.slice a l.length c] G [] (fun v G' Ho=>∃ n,v=.agg #[.bool (neg && decide (0<n)),.slice (subA a c 0 1) n c]∧TrimTo l n∧G'=G∧Ho=[]):=by
 refine Does.enter Tryz.func168 rfl Tryz.ntmps168 rfl (fun w=>?_)
 refine Wc.gl 2 [] ?_
 refine Wl.alloc 0 rfl T.zero190 (fun b1=>?_)
 refine Wl.gc 11 [] ?_
 refine Wc.loop (ι:=Nat) (fun n=>([(5,.int .i64 (n:Int)),(4,.pointer (some ⟨b1,0,none⟩)),(0,.bool neg),(1,.slice a (List.length l) c)],[(0,some b1,.cells #[.bool Bool.false,.slice none 0 0] 190)])) (fun n=>n≤l.length∧(∀ j,n≤j→j<l.length→(l[j]?.getD default).v=0)) (fun n=>n) (l.length) (⟨Nat.le_refl _,fun j h1 h2=>absurd h2 (by omega)⟩) ⟨rfl,rfl,rfl,rfl,trivial⟩ ⟨rfl,trivial⟩ (fun n=>fun hk=>?_)
 obtain ⟨hn,hz⟩:=hk
 refine Wc.gl 6 [] ?_
 apply Wl.joinAnd 7 10 17 rfl
 intro hg1
 refine Wl.ll0 7 [] ?_
 refine Wl.q rfl (Qy.at (α:=U32) T.sl123 rfl rfl (by assumption) (by omega)) ?_
 refine Wl.want rfl rfl ?_
 refine Wl.q rfl (Qy.loadG T.one215 rfl (Arr.cell (by assumption) (by omega) 0 rfl rfl)) ?_
 refine Wl.ll0 3 [] ?_
 exact Wl.back 7 0 rfl rfl rfl rfl rfl
 intro hg1
 refine Wl.ll0 7 [] ?_
 exact Wl.back 7 0 rfl rfl rfl rfl rfl
 refine Wl.gc 2 [] ?_
 refine Wc.cond rfl (fun hc1=>?_) (fun hc1=>?_)
 refine Wc.ga 9 [] ?_
 rotate_left
 refine Wc.gl 9 [] ?_
 refine Wl.casesB 21 rfl (fun hg1=>?_) (fun hg1=>?_)
 refine Wl.ll0 7 [] ?_
 refine Wl.q rfl (Qy.cutH T.sl123 rfl rfl (by omega)) ?_
 refine Wl.q rfl (Qy.build (cs:=[_,_]) T.st190 rfl rfl rfl) ?_
 refine Wl.ga 4 [0] ?_
 refine Ar.out1 (.inr rfl) (Ho:=Hp.only _ []) rfl (.agg 0 rfl rfl T.agg190) (Hp.sub_only _ _) ?_
 rotate_left
 refine Wl.ll0 5 [] ?_
 refine Wl.q rfl (Qy.cutH T.sl123 rfl rfl (by omega)) ?_
 refine Wl.q rfl (Qy.build (cs:=[_,_]) T.st190 rfl rfl rfl) ?_
 refine Wl.ga 4 [0] ?_
 refine Ar.out1 (.inr rfl) (Ho:=Hp.only _ []) rfl (.agg 0 rfl rfl T.agg190) (Hp.sub_only _ _) ?_
 rotate_left
 · refine Ar.re 5 rfl (show _=Value.int .i64 ((n - 1:Nat):Int) by congr 1;omega) ?_
   refine Ar.again (n - 1) ?_ ?_ rfl ⟨rfl,rfl,rfl,rfl,trivial⟩ ⟨rfl,trivial⟩
   · refine ⟨by omega,fun j h1 h2=>?_⟩
     rcases Nat.lt_or_ge j n with h3 | h3
     · have e:j=(((n:Nat):Int) - 1).toNat:=by omega
       rw [e];exact hc1.2
     exact hz j h3 h2
   omega
 · refine ⟨n,?_,⟨hn,hz,?_⟩,rfl,rfl⟩
   · rw [hg1]
     have e:((0:Int)<(n:Int))=(0<n):=by rw [eq_iff_iff];omega
     simp only [e,Bool.true_and,Int.toNat_natCast]
   rcases Nat.eq_zero_or_pos n with h | h
   · exact .inl h
   refine .inr fun h2=>hc1 ⟨by omega,?_⟩
   have e:(((n:Nat):Int) - 1).toNat=n - 1:=by omega
   rw [e];exact h2
 refine ⟨n,?_,⟨hn,hz,?_⟩,rfl,rfl⟩
 · rw [hg1]
   simp only [Bool.false_and,Int.toNat_natCast]
 rcases Nat.eq_zero_or_pos n with h | h
 · exact .inl h
 refine .inr fun h2=>hc1 ⟨by omega,?_⟩
 have e:(((n:Nat):Int) - 1).toNat=n - 1:=by omega
 rw [e];exact h2
theorem TrimTo.val {l:List U32} {n:Nat} (h:TrimTo l n):valL (l.take n)=valL l:=valL_trim h.2.1
theorem TrimTo.top {l:List U32} {n:Nat} (h:TrimTo l n):Top (l.take n):=by
 obtain ⟨h1,h2,h3⟩:=h
 rcases h3 with h3 | h3
 · subst h3;exact .inl rfl
 by_cases h0:n=0
 · subst h0;exact .inl rfl
 refine .inr ?_
 rw [List.length_take,Nat.min_eq_left h1,List.getElem?_take,if_pos (by omega)]
 exact h3
theorem TrimTo.len {l:List U32} {n:Nat} (h:TrimTo l n):(l.take n).length=n:=by rw [List.length_take,Nat.min_eq_left h.1]
theorem TrimTo.isInt {l:List U32} {n:Nat} (h:TrimTo l n) (hd:Digs l) (neg:Bool):IsInt (neg && decide (0<n)) (l.take n) (if neg=true then -valL l else valL l):=by
 refine ⟨hd.take n,h.top,fun e=>?_,?_⟩
 · have hl:=h.len
   rw [e] at hl
   have:n=0:=by simpa using hl.symm
   subst this;simp
 have hv:=h.val
 rw [←hv]
 cases neg with
 | false=>simp
 | true =>
   by_cases h0:n=0
   · subst h0;simp [valL_nil]
   have:0<n:=by omega
   simp [this]
theorem TrimTo.num {G:Imm} {a:Option Addr} {c:Nat} {l:List U32} {n:Nat} (h:TrimTo l n) (hd:Digs l) (hl:Arr G a l) (hc:l.length≤c) (neg:Bool):Num G ⟨neg && decide (0<n),subA a c 0 1,n,c⟩ (if neg=true then -valL l else valL l):=by
 refine ⟨l.take n,h.len,Nat.le_trans h.1 hc,?_,h.isInt hd neg⟩
 exact arr_sub hl n
end Go.Proofs.YtfdcckcadfhpeaaGreatDoor
namespace Go.Proofs.YtfdcckcadfhpeaaGreatDoor
open Go Go.Sl
set_option maxHeartbeats 4000000
theorem carry (P s:Int):P*(s % 65536)+65536*P*(s / 65536)=P*s:=by
 have h:=Int.emod_add_mul_ediv s 65536
 have e:65536*P*(s / 65536)=P*(65536*(s / 65536)):=by rw [Int.mul_comm 65536 P,Int.mul_assoc]
 rw [e,←Int.mul_add,h]
def dg (l:List U32) (i:Nat):Int:=(l[((i:Nat):Int).toNat]?.getD default).v
theorem dg_lt {l:List U32} (h:Digs l) {i:Nat} (hi:i<l.length):0≤dg l i∧dg l i<65536:=h.at (by omega)
theorem dg_end {l:List U32} {i:Nat} (hi:l.length≤i):dg l i=0:=by
 unfold dg;rw [Int.toNat_natCast,List.getElem?_eq_none hi];rfl
theorem val_step (l:List U32) (i:Nat):valL (l.take (i+1))=valL (l.take i)+pw i*dg l i:=by
 rcases Nat.lt_or_ge i l.length with h | h
 · exact valL_take_succ h
 rw [take_all h,take_all (by omega),dg_end h,Int.mul_zero,Int.add_zero]
theorem plus_next {la lb r:List U32} {i:Nat} {cy s:Int} (hri:r.length=i) (hv:valL (la.take i)+valL (lb.take i)=valL r+pw i*cy) (hs:s=cy+dg la i+dg lb i) :
 valL (la.take (i+1))+valL (lb.take (i+1))=valL (r++[⟨s % 65536⟩])+pw (i+1)*(s / 65536):=by
 rw [val_step,val_step,valL_snoc,hri,pw_succ]
 have h:=carry (pw i) s
 rw [hs,Int.mul_add,Int.mul_add] at h
 rw [←hs] at h
 show _=valL r+pw i*(s % 65536)+65536*pw i*(s / 65536)
 omega
theorem digs_snoc {r:List U32} (h:Digs r) (s:Int):Digs (r++[⟨s % 65536⟩]):=h.append (Digs.one ⟨Int.emod_nonneg _ (by decide),Int.emod_lt_of_pos _ (by decide)⟩)
attribute [local irreducible] valL pw
theorem c277 (G:Imm) (a b:Option Addr) (ca cb:Nat) (la lb:List U32) (ha:Arr G a la) (hb:Arr G b lb) (da:Digs la) (db:Digs lb) (h1:la.length≤1073741824) (h2:lb.length≤1073741824) :
 Does Tryz.prog 277 [.slice a la.length ca,.slice b lb.length cb] G [] (fun v G' Ho=>∃ o c r j,v=.slice o r.length c∧OwnA o c r j∧Ho=[(0,o.map (·.block),Row 215 r j)]∧G'=G∧Digs r∧valL r=valL la+valL lb∧r.length≤max la.length lb.length+1):=by
 refine Does.enter Tryz.func277 rfl Tryz.ntmps277 rfl (fun w=>?_)
 refine Wc.nilRow 0 (Row 215 ([]:List U32) []) ?_
 refine Wc.gc 22 [] ?_
 refine Wc.loop (ι:=Nat×Int×List U32×(Option Addr×Nat×List Value)) (fun (i,cy,r,(o,d,j))=>([(7,.int .i64 (i:Int)),(6,.int .u32 cy),(5,.slice o r.length d),(4,.slice none 0 0),(0,.slice a (List.length la) ca),(1,.slice b (List.length lb) cb)],[(0,o.map (·.block),Row 215 r j)])) (fun (i,cy,r,(o,d,j))=>r.length=i∧(i≤max la.length lb.length∨(i≤max la.length lb.length+1∧cy=0))∧0≤cy∧cy≤1∧Digs r∧valL (la.take i)+valL (lb.take i)=valL r+pw i*cy∧OwnA o d r j) (fun (i,cy,r,(o,d,j))=>2*(max la.length lb.length - i)+cy.toNat) ((0,0,[],(none,0,[]))) (⟨rfl,.inl (Nat.zero_le _),by decide,by decide,Digs.nil,by rw [List.take_zero,List.take_zero,Int.mul_zero,Int.add_zero,valL_nil];rfl,OwnA.nil⟩) ⟨rfl,rfl,rfl,rfl,rfl,rfl,trivial⟩ ⟨rfl,trivial⟩ (fun ⟨i,cy,r,(o,d,j)⟩=>fun hk=>?_)
 obtain ⟨hri,hiM,hc0,hc1,hdr,hv,hob⟩:=hk
 rcases Nat.lt_or_ge i la.length with hia | hia
 · have da1:0≤(la[((i:Nat):Int).toNat]?.getD default).v∧(la[((i:Nat):Int).toNat]?.getD default).v<65536:=dg_lt da hia
   rcases Nat.lt_or_ge i lb.length with hib | hib
   · have db1:0≤(lb[((i:Nat):Int).toNat]?.getD default).v∧(lb[((i:Nat):Int).toNat]?.getD default).v<65536:=dg_lt db hib
     refine Wc.gl 8 [] ?_
     refine Wl.yes 12 rfl (by first | assumption | omega) ?_
     refine Wl.gl 30 [1,1] ?_
     refine Wl.q rfl (Qy.at (α:=U32) T.sl123 rfl rfl (by assumption) (by omega)) ?_
     refine Wl.q rfl (Qy.loadG T.one215 rfl (Arr.cell (by assumption) (by omega) 0 rfl rfl)) ?_
     refine Wl.q rfl (Qy.uadd32 rfl rfl (by omega)) ?_
     refine Wl.gl 17 [1] ?_
     refine Wl.q rfl (Qy.at (α:=U32) T.sl123 rfl rfl (by assumption) (by omega)) ?_
     refine Wl.q rfl (Qy.loadG T.one215 rfl (Arr.cell (by assumption) (by omega) 0 rfl rfl)) ?_
     refine Wl.q rfl (Qy.uadd32 rfl rfl (by omega)) ?_
     refine Wl.gl 7 [] ?_
     refine Wl.q rfl (Qy.urem rfl rfl (by omega)) ?_
     refine Wl.lit (α:=U32) 1 [⟨(cy+Go.Sl.U32.v (Option.getD la[Int.toNat (↑i:Int)]? Inhabited.default)+Go.Sl.U32.v (Option.getD lb[Int.toNat (↑i:Int)]? Inhabited.default)) % 65536⟩] rfl T.sl123 T.el215 rfl rfl rfl rfl rfl (fun b1=>?_)
     refine Wl.append (α:=U32) 0 rfl T.sl123 T.el215 rfl rfl rfl (by first | assumption | exact OwnA.nil | exact OwnA.made (by simp)) (Src.row 1 rfl) (by first | omega | (simp only [List.length_append,List.length_cons,List.length_nil,maxLen];omega)) (by first | omega | (simp only [List.length_append,List.length_cons,List.length_nil,maxLen];omega)) (fun a1 c1 junk1 ho1=>?_)
     refine Wl.gl 5 [] ?_
     refine Wl.q rfl (Qy.uquo32 rfl rfl (by omega)) ?_
     refine Wl.ga 9 [] ?_
     refine Ar.again ((i+1,(cy+(la[((i:Nat):Int).toNat]?.getD default).v+(lb[((i:Nat):Int).toNat]?.getD default).v) / 65536,_,(a1,c1,junk1))) ?_ ?_ rfl ⟨rfl,rfl,rfl,rfl,rfl,rfl,trivial⟩ ⟨rfl,trivial⟩
     · exact ⟨by rw [List.length_append,hri];rfl,by omega,by omega,by omega,digs_snoc hdr _,plus_next hri hv (by rfl),ho1⟩
     show 2*(max la.length lb.length - (i+1))+((cy+(la[((i:Nat):Int).toNat]?.getD default).v+(lb[((i:Nat):Int).toNat]?.getD default).v) / 65536).toNat<2*(max la.length lb.length - i)+cy.toNat
     omega
   have z:=dg_end hib
   refine Wc.gl 8 [] ?_
   refine Wl.yes 12 rfl (by first | assumption | omega) ?_
   refine Wl.gl 30 [1,1] ?_
   refine Wl.q rfl (Qy.at (α:=U32) T.sl123 rfl rfl (by assumption) (by omega)) ?_
   refine Wl.q rfl (Qy.loadG T.one215 rfl (Arr.cell (by assumption) (by omega) 0 rfl rfl)) ?_
   refine Wl.q rfl (Qy.uadd32 rfl rfl (by omega)) ?_
   refine Wl.gl 19 [0] ?_
   refine Wl.q rfl (Qy.urem rfl rfl (by omega)) ?_
   refine Wl.lit (α:=U32) 1 [⟨(cy+Go.Sl.U32.v (Option.getD la[Int.toNat (↑i:Int)]? Inhabited.default)) % 65536⟩] rfl T.sl123 T.el215 rfl rfl rfl rfl rfl (fun b1=>?_)
   refine Wl.append (α:=U32) 0 rfl T.sl123 T.el215 rfl rfl rfl (by first | assumption | exact OwnA.nil | exact OwnA.made (by simp)) (Src.row 1 rfl) (by first | omega | (simp only [List.length_append,List.length_cons,List.length_nil,maxLen];omega)) (by first | omega | (simp only [List.length_append,List.length_cons,List.length_nil,maxLen];omega)) (fun a1 c1 junk1 ho1=>?_)
   refine Wl.gl 5 [] ?_
   refine Wl.q rfl (Qy.uquo32 rfl rfl (by omega)) ?_
   refine Wl.ga 9 [] ?_
   refine Ar.again ((i+1,(cy+(la[((i:Nat):Int).toNat]?.getD default).v) / 65536,_,(a1,c1,junk1))) ?_ ?_ rfl ⟨rfl,rfl,rfl,rfl,rfl,rfl,trivial⟩ ⟨rfl,trivial⟩
   · exact ⟨by rw [List.length_append,hri];rfl,by omega,by omega,by omega,digs_snoc hdr _,plus_next hri hv (by rw [z,Int.add_zero];rfl),ho1⟩
   show 2*(max la.length lb.length - (i+1))+((cy+(la[((i:Nat):Int).toNat]?.getD default).v) / 65536).toNat<2*(max la.length lb.length - i)+cy.toNat
   omega
 have z:=dg_end hia
 rcases Nat.lt_or_ge i lb.length with hib | hib
 · have db1:0≤(lb[((i:Nat):Int).toNat]?.getD default).v∧(lb[((i:Nat):Int).toNat]?.getD default).v<65536:=dg_lt db hib
   refine Wc.gl 8 [] ?_
   refine Wl.no 12 rfl (by first | assumption | omega) ?_
   refine Wl.ll0 10 [] ?_
   refine Wl.yes 18 rfl (by first | assumption | omega) ?_
   refine Wl.gl 36 [1,0,1] ?_
   refine Wl.q rfl (Qy.at (α:=U32) T.sl123 rfl rfl (by assumption) (by omega)) ?_
   refine Wl.q rfl (Qy.loadG T.one215 rfl (Arr.cell (by assumption) (by omega) 0 rfl rfl)) ?_
   refine Wl.q rfl (Qy.uadd32 rfl rfl (by omega)) ?_
   refine Wl.gl 7 [] ?_
   refine Wl.q rfl (Qy.urem rfl rfl (by omega)) ?_
   refine Wl.lit (α:=U32) 1 [⟨(cy+Go.Sl.U32.v (Option.getD lb[Int.toNat (↑i:Int)]? Inhabited.default)) % 65536⟩] rfl T.sl123 T.el215 rfl rfl rfl rfl rfl (fun b1=>?_)
   refine Wl.append (α:=U32) 0 rfl T.sl123 T.el215 rfl rfl rfl (by first | assumption | exact OwnA.nil | exact OwnA.made (by simp)) (Src.row 1 rfl) (by first | omega | (simp only [List.length_append,List.length_cons,List.length_nil,maxLen];omega)) (by first | omega | (simp only [List.length_append,List.length_cons,List.length_nil,maxLen];omega)) (fun a1 c1 junk1 ho1=>?_)
   refine Wl.gl 5 [] ?_
   refine Wl.q rfl (Qy.uquo32 rfl rfl (by omega)) ?_
   refine Wl.ga 9 [] ?_
   refine Ar.again ((i+1,(cy+(lb[((i:Nat):Int).toNat]?.getD default).v) / 65536,_,(a1,c1,junk1))) ?_ ?_ rfl ⟨rfl,rfl,rfl,rfl,rfl,rfl,trivial⟩ ⟨rfl,trivial⟩
   · exact ⟨by rw [List.length_append,hri];rfl,by omega,by omega,by omega,digs_snoc hdr _,plus_next hri hv (by rw [z,Int.add_zero];rfl),ho1⟩
   show 2*(max la.length lb.length - (i+1))+((cy+(lb[((i:Nat):Int).toNat]?.getD default).v) / 65536).toNat<2*(max la.length lb.length - i)+cy.toNat
   omega
 have z2:=dg_end hib
 by_cases hcy:0<cy
 · refine Wc.gl 8 [] ?_
   refine Wl.no 12 rfl (by first | assumption | omega) ?_
   refine Wl.ll0 10 [] ?_
   refine Wl.no 18 rfl (by first | assumption | omega) ?_
   refine Wl.gl 40 [1,0,0] ?_
   refine Wl.q rfl (Qy.urem rfl rfl (by omega)) ?_
   refine Wl.lit (α:=U32) 1 [⟨cy % 65536⟩] rfl T.sl123 T.el215 rfl rfl rfl rfl rfl (fun b1=>?_)
   refine Wl.append (α:=U32) 0 rfl T.sl123 T.el215 rfl rfl rfl (by first | assumption | exact OwnA.nil | exact OwnA.made (by simp)) (Src.row 1 rfl) (by first | omega | (simp only [List.length_append,List.length_cons,List.length_nil,maxLen];omega)) (by first | omega | (simp only [List.length_append,List.length_cons,List.length_nil,maxLen];omega)) (fun a1 c1 junk1 ho1=>?_)
   refine Wl.gl 5 [] ?_
   refine Wl.q rfl (Qy.uquo32 rfl rfl (by omega)) ?_
   refine Wl.ga 9 [] ?_
   refine Ar.again ((i+1,(cy) / 65536,_,(a1,c1,junk1))) ?_ ?_ rfl ⟨rfl,rfl,rfl,rfl,rfl,rfl,trivial⟩ ⟨rfl,trivial⟩
   · exact ⟨by rw [List.length_append,hri];rfl,by omega,by omega,by omega,digs_snoc hdr _,plus_next hri hv (by rw [z,z2];omega),ho1⟩
   show 2*(max la.length lb.length - (i+1))+((cy) / 65536).toNat<2*(max la.length lb.length - i)+cy.toNat
   omega
 have e0:cy=0:=by omega
 subst e0
 rw [take_all hia,take_all hib,Int.mul_zero,Int.add_zero] at hv
 refine Wc.gl 8 [] ?_
 refine Wl.no 12 rfl (by first | assumption | omega) ?_
 refine Wl.ll0 10 [] ?_
 refine Wl.no 18 rfl (by first | assumption | omega) ?_
 refine Wl.ga 20 [0] ?_
 refine Ar.out1 (.inr rfl) (Ho:=Hp.only _ [0]) rfl (.tmp rfl) (Hp.sub_only _ _) ?_
 exact ⟨_,_,_,_,rfl,hob,rfl,rfl,hdr,hv.symm,by omega⟩
theorem minus_next {la lb r:List U32} {i:Nat} {cy cy' s:Int} (hri:r.length=i) (hv:valL (la.take i) - valL (lb.take i)=valL r - pw i*cy) (hs:s=dg la i - dg lb i - cy+65536*cy') :
 valL (la.take (i+1)) - valL (lb.take (i+1))=valL (r++[⟨s⟩]) - pw (i+1)*cy':=by
 rw [val_step,val_step,valL_snoc,hri,pw_succ]
 have h:pw i*s=pw i*dg la i - pw i*dg lb i - pw i*cy+65536*pw i*cy':=by
  rw [hs,Int.mul_add,Int.mul_sub,Int.mul_sub,←Int.mul_assoc,Int.mul_comm (pw i) 65536]
 show _=valL r+pw i*s - 65536*pw i*cy'
 omega
theorem minus_end {la lb r:List U32} {n:Nat} {cy:Int} (hn:n=la.length) (hb:lb.length≤la.length) (hle:valL lb≤valL la) (hri:r.length=n) (hd:Digs r) (hc:0≤cy∧cy≤1) (hv:valL (la.take n) - valL (lb.take n)=valL r - pw n*cy):valL r=valL la - valL lb:=by
 rw [take_all (by omega),take_all (by omega)] at hv
 have h:=valL_lt hd
 rw [hri] at h
 have hcy:cy=0:=by
  rcases (show cy=0∨cy=1 by omega) with h1 | h1
  · exact h1
  rw [h1,Int.mul_one] at hv;omega
 rw [hcy,Int.mul_zero] at hv
 omega
theorem c278 (G:Imm) (a b:Option Addr) (ca cb:Nat) (la lb:List U32) (ha:Arr G a la) (hb:Arr G b lb) (da:Digs la) (db:Digs lb) (h1:la.length≤1073741824) (h2:lb.length≤la.length) (hle:valL lb≤valL la) :
 Does Tryz.prog 278 [.slice a la.length ca,.slice b lb.length cb] G [] (fun v G' Ho=>∃ o c r j,v=.slice o r.length c∧OwnA o c r j∧Ho=[(0,o.map (·.block),Row 215 r j)]∧G'=G∧Digs r∧valL r=valL la - valL lb∧r.length=la.length):=by
 refine Does.enter Tryz.func278 rfl Tryz.ntmps278 rfl (fun w=>?_)
 refine Wc.nilRow 0 (Row 215 ([]:List U32) []) ?_
 refine Wc.gc 22 [] ?_
 refine Wc.loop (ι:=Nat×Int×List U32×(Option Addr×Nat×List Value)) (fun (i,cy,r,(o,d,j))=>([(7,.int .i64 (i:Int)),(6,.int .u32 cy),(5,.slice o r.length d),(4,.slice none 0 0),(0,.slice a (List.length la) ca),(1,.slice b (List.length lb) cb)],[(0,o.map (·.block),Row 215 r j)])) (fun (i,cy,r,(o,d,j))=>r.length=i∧i≤la.length∧0≤cy∧cy≤1∧Digs r∧valL (la.take i) - valL (lb.take i)=valL r - pw i*cy∧OwnA o d r j) (fun (i,cy,r,(o,d,j))=>la.length - i) ((0,0,[],(none,0,[]))) (⟨rfl,Nat.zero_le _,by decide,by decide,Digs.nil,by rw [List.take_zero,List.take_zero,Int.mul_zero,Int.sub_zero,Int.sub_self,valL_nil],OwnA.nil⟩) ⟨rfl,rfl,rfl,rfl,rfl,rfl,trivial⟩ ⟨rfl,trivial⟩ (fun ⟨i,cy,r,(o,d,j)⟩=>fun hk=>?_)
 obtain ⟨hri,hiM,hc0,hc1,hdr,hv,hob⟩:=hk
 rcases Nat.lt_or_ge i la.length with hia | hia
 · have da1:0≤(la[((i:Nat):Int).toNat]?.getD default).v∧(la[((i:Nat):Int).toNat]?.getD default).v<65536:=dg_lt da hia
   rcases Nat.lt_or_ge i lb.length with hib | hib
   · have db1:0≤(lb[((i:Nat):Int).toNat]?.getD default).v∧(lb[((i:Nat):Int).toNat]?.getD default).v<65536:=dg_lt db hib
     by_cases hlt:(la[((i:Nat):Int).toNat]?.getD default).v<cy+(lb[((i:Nat):Int).toNat]?.getD default).v
     · refine Wc.gl 34 [1,1] ?_
       refine Wl.q rfl (Qy.at (α:=U32) T.sl123 rfl rfl (by assumption) (by omega)) ?_
       refine Wl.q rfl (Qy.loadG T.one215 rfl (Arr.cell (by assumption) (by omega) 0 rfl rfl)) ?_
       refine Wl.q rfl (Qy.uadd32 rfl rfl (by omega)) ?_
       refine Wl.gl 12 [] ?_
       refine Wl.q rfl (Qy.at (α:=U32) T.sl123 rfl rfl (by assumption) (by omega)) ?_
       refine Wl.q rfl (Qy.loadG T.one215 rfl (Arr.cell (by assumption) (by omega) 0 rfl rfl)) ?_
       refine Wl.gl 15 [1] ?_
       refine Wl.q rfl (Qy.uadd32 rfl rfl (by omega)) ?_
       refine Wl.gl 11 [] ?_
       refine Wl.q rfl (Qy.usub32 rfl rfl (by omega)) ?_
       refine Wl.lit (α:=U32) 1 [⟨Go.Sl.U32.v (Option.getD la[Int.toNat (↑i:Int)]? Inhabited.default)+65536 - (cy+Go.Sl.U32.v (Option.getD lb[Int.toNat (↑i:Int)]? Inhabited.default))⟩] rfl T.sl123 T.el215 rfl rfl rfl rfl rfl (fun b1=>?_)
       refine Wl.append (α:=U32) 0 rfl T.sl123 T.el215 rfl rfl rfl (by first | assumption | exact OwnA.nil | exact OwnA.made (by simp)) (Src.row 1 rfl) (by first | omega | (simp only [List.length_append,List.length_cons,List.length_nil,maxLen];omega)) (by first | omega | (simp only [List.length_append,List.length_cons,List.length_nil,maxLen];omega)) (fun a1 c1 junk1 ho1=>?_)
       refine Wl.ga 9 [] ?_
       refine Ar.again ((i+1,1,_,(a1,c1,junk1))) ?_ ?_ rfl ⟨rfl,rfl,rfl,rfl,rfl,rfl,trivial⟩ ⟨rfl,trivial⟩
       · exact ⟨by rw [List.length_append,hri];rfl,by omega,by decide,by decide,hdr.append (Digs.one (by omega)),minus_next hri hv (by unfold dg;omega),ho1⟩
       show la.length - (i+1)<la.length - i
       omega
     refine Wc.gl 34 [1,1] ?_
     refine Wl.q rfl (Qy.at (α:=U32) T.sl123 rfl rfl (by assumption) (by omega)) ?_
     refine Wl.q rfl (Qy.loadG T.one215 rfl (Arr.cell (by assumption) (by omega) 0 rfl rfl)) ?_
     refine Wl.q rfl (Qy.uadd32 rfl rfl (by omega)) ?_
     refine Wl.gl 12 [] ?_
     refine Wl.q rfl (Qy.at (α:=U32) T.sl123 rfl rfl (by assumption) (by omega)) ?_
     refine Wl.q rfl (Qy.loadG T.one215 rfl (Arr.cell (by assumption) (by omega) 0 rfl rfl)) ?_
     refine Wl.gl 18 [0] ?_
     refine Wl.q rfl (Qy.usub32 rfl rfl (by omega)) ?_
     refine Wl.lit (α:=U32) 1 [⟨Go.Sl.U32.v (Option.getD la[Int.toNat (↑i:Int)]? Inhabited.default) - (cy+Go.Sl.U32.v (Option.getD lb[Int.toNat (↑i:Int)]? Inhabited.default))⟩] rfl T.sl123 T.el215 rfl rfl rfl rfl rfl (fun b1=>?_)
     refine Wl.append (α:=U32) 0 rfl T.sl123 T.el215 rfl rfl rfl (by first | assumption | exact OwnA.nil | exact OwnA.made (by simp)) (Src.row 1 rfl) (by first | omega | (simp only [List.length_append,List.length_cons,List.length_nil,maxLen];omega)) (by first | omega | (simp only [List.length_append,List.length_cons,List.length_nil,maxLen];omega)) (fun a1 c1 junk1 ho1=>?_)
     refine Wl.ga 9 [] ?_
     refine Ar.again ((i+1,0,_,(a1,c1,junk1))) ?_ ?_ rfl ⟨rfl,rfl,rfl,rfl,rfl,rfl,trivial⟩ ⟨rfl,trivial⟩
     · exact ⟨by rw [List.length_append,hri];rfl,by omega,by decide,by decide,hdr.append (Digs.one (by omega)),minus_next hri hv (by unfold dg;omega),ho1⟩
     show la.length - (i+1)<la.length - i
     omega
   have z:=dg_end hib
   by_cases hlt:(la[((i:Nat):Int).toNat]?.getD default).v<cy
   · refine Wc.gl 41 [1,0] ?_
     refine Wl.q rfl (Qy.at (α:=U32) T.sl123 rfl rfl (by assumption) (by omega)) ?_
     refine Wl.q rfl (Qy.loadG T.one215 rfl (Arr.cell (by assumption) (by omega) 0 rfl rfl)) ?_
     refine Wl.gl 15 [1] ?_
     refine Wl.q rfl (Qy.uadd32 rfl rfl (by omega)) ?_
     refine Wl.gl 11 [] ?_
     refine Wl.q rfl (Qy.usub32 rfl rfl (by omega)) ?_
     refine Wl.lit (α:=U32) 1 [⟨Go.Sl.U32.v (Option.getD la[Int.toNat (↑i:Int)]? Inhabited.default)+65536 - cy⟩] rfl T.sl123 T.el215 rfl rfl rfl rfl rfl (fun b1=>?_)
     refine Wl.append (α:=U32) 0 rfl T.sl123 T.el215 rfl rfl rfl (by first | assumption | exact OwnA.nil | exact OwnA.made (by simp)) (Src.row 1 rfl) (by first | omega | (simp only [List.length_append,List.length_cons,List.length_nil,maxLen];omega)) (by first | omega | (simp only [List.length_append,List.length_cons,List.length_nil,maxLen];omega)) (fun a1 c1 junk1 ho1=>?_)
     refine Wl.ga 9 [] ?_
     refine Ar.again ((i+1,1,_,(a1,c1,junk1))) ?_ ?_ rfl ⟨rfl,rfl,rfl,rfl,rfl,rfl,trivial⟩ ⟨rfl,trivial⟩
     · exact ⟨by rw [List.length_append,hri];rfl,by omega,by decide,by decide,hdr.append (Digs.one (by omega)),minus_next hri hv (by rw [z];unfold dg;omega),ho1⟩
     show la.length - (i+1)<la.length - i
     omega
   refine Wc.gl 41 [1,0] ?_
   refine Wl.q rfl (Qy.at (α:=U32) T.sl123 rfl rfl (by assumption) (by omega)) ?_
   refine Wl.q rfl (Qy.loadG T.one215 rfl (Arr.cell (by assumption) (by omega) 0 rfl rfl)) ?_
   refine Wl.gl 18 [0] ?_
   refine Wl.q rfl (Qy.usub32 rfl rfl (by omega)) ?_
   refine Wl.lit (α:=U32) 1 [⟨Go.Sl.U32.v (Option.getD la[Int.toNat (↑i:Int)]? Inhabited.default) - cy⟩] rfl T.sl123 T.el215 rfl rfl rfl rfl rfl (fun b1=>?_)
   refine Wl.append (α:=U32) 0 rfl T.sl123 T.el215 rfl rfl rfl (by first | assumption | exact OwnA.nil | exact OwnA.made (by simp)) (Src.row 1 rfl) (by first | omega | (simp only [List.length_append,List.length_cons,List.length_nil,maxLen];omega)) (by first | omega | (simp only [List.length_append,List.length_cons,List.length_nil,maxLen];omega)) (fun a1 c1 junk1 ho1=>?_)
   refine Wl.ga 9 [] ?_
   refine Ar.again ((i+1,0,_,(a1,c1,junk1))) ?_ ?_ rfl ⟨rfl,rfl,rfl,rfl,rfl,rfl,trivial⟩ ⟨rfl,trivial⟩
   · exact ⟨by rw [List.length_append,hri];rfl,by omega,by decide,by decide,hdr.append (Digs.one (by omega)),minus_next hri hv (by rw [z];unfold dg;omega),ho1⟩
   show la.length - (i+1)<la.length - i
   omega
 refine Wc.ga 22 [0] ?_
 refine Ar.out1 (.inr rfl) (Ho:=Hp.only _ [0]) rfl (.tmp rfl) (Hp.sub_only _ _) ?_
 exact ⟨_,_,_,_,rfl,hob,rfl,rfl,hdr,minus_end (by omega) h2 hle hri hdr ⟨hc0,hc1⟩ hv,by omega⟩
end Go.Proofs.YtfdcckcadfhpeaaGreatDoor
namespace Go.Proofs.YtfdcckcadfhpeaaGreatDoor
open Go Go.Sl
set_option maxHeartbeats 4000000
theorem val_split (l:List U32) {m:Nat} (h:m≤l.length):valL l=valL (l.take m)+pw m*valL (l.drop m):=by
 have e:valL l=valL (l.take m++l.drop m):=by rw [List.take_append_drop]
 rw [e,valL_append,List.length_take,Nat.min_eq_left h]
theorem u32_eq {x y:U32} (h:x.v=y.v):x=y:=by cases x;cases y;simp only at h;rw [h]
theorem drop_same {la lb:List U32} {k:Nat} (hn:la.length=lb.length) (h:∀ j,k≤j→j<la.length→dg la j=dg lb j):la.drop k=lb.drop k:=by
 apply List.ext_getElem?
 intro j
 rw [List.getElem?_drop,List.getElem?_drop]
 rcases Nat.lt_or_ge (k+j) la.length with hj | hj
 · have:=h (k+j) (by omega) hj
   unfold dg at this
   rw [Int.toNat_natCast,List.getElem?_eq_getElem hj,List.getElem?_eq_getElem (by omega)] at this
   rw [List.getElem?_eq_getElem hj,List.getElem?_eq_getElem (by omega)];exact congrArg some (u32_eq this)
 rw [List.getElem?_eq_none hj,List.getElem?_eq_none (by omega)]
theorem high_lt {la lb:List U32} {k:Nat} (hn:la.length=lb.length) (hk:k<la.length) (da:Digs la) (db:Digs lb) (h:∀ j,k+1≤j→j<la.length→dg la j=dg lb j) (hlt:dg la k<dg lb k):valL la<valL lb:=by
 have e1:=val_split la (m:=k+1) (by omega)
 have e2:=val_split lb (m:=k+1) (by omega)
 rw [val_step,drop_same hn h] at e1
 rw [val_step] at e2
 have h1:=valL_lt (da.take k)
 have h2:=valL_nonneg (db.take k)
 rw [List.length_take,Nat.min_eq_left (by omega)] at h1
 have h3:=Int.mul_le_mul_of_nonneg_left (show dg la k+1≤dg lb k by omega) (Int.le_of_lt (pw_pos k))
 rw [Int.mul_add,Int.mul_one] at h3
 omega
attribute [local irreducible] valL pw cmpZ
theorem c216 (G:Imm) (a b:Option Addr) (ca cb:Nat) (la lb:List U32) (ha:Arr G a la) (hb:Arr G b lb) (da:Digs la) (db:Digs lb) (ta:Top la) (tb:Top lb) (h1:la.length≤1073741824) (h2:lb.length≤1073741824) :
 Does Tryz.prog 216 [.slice a la.length ca,.slice b lb.length cb] G [] (fun v G' Ho=>v=.int .i64 (cmpZ (valL la) (valL lb))∧G'=G∧Ho=[]):=by
 refine Does.enter Tryz.func216 rfl Tryz.ntmps216 rfl (fun w=>?_)
 by_cases hn:la.length=lb.length
 · refine Wc.gc 28 [0] ?_
   refine Wc.loop (ι:=Nat) (fun k=>([(5,.int .i64 ((k:Int) - 1)),(0,.slice a (List.length la) ca),(1,.slice b (List.length lb) cb)],[])) (fun k=>k≤la.length∧∀ j,k≤j→j<la.length→dg la j=dg lb j) (fun k=>k) (la.length) (⟨Nat.le_refl _,fun j h1 h2=>absurd h2 (by omega)⟩) ⟨rfl,rfl,rfl,trivial⟩ trivial (fun k=>fun hk=>?_)
   obtain ⟨hk1,hz⟩:=hk
   rcases Nat.eq_zero_or_pos k with rfl | hpos
   · refine Wc.ga 19 [0] ?_
     refine Ar.e1 ?_
     have e:la=lb:=by
      have:=drop_same (k:=0) hn hz
      simpa using this
     exact ⟨by rw [e,cmpZ_eq rfl],rfl,rfl⟩
   have e1:(la[(((k:Nat):Int) - 1).toNat]?.getD default).v=dg la (k - 1):=by
    unfold dg;rw [show (((k:Nat):Int) - 1).toNat=((k - 1:Nat):Int).toNat by omega]
   have e2:(lb[(((k:Nat):Int) - 1).toNat]?.getD default).v=dg lb (k - 1):=by
    unfold dg;rw [show (((k:Nat):Int) - 1).toNat=((k - 1:Nat):Int).toNat by omega]
   have hz':∀ j,(k - 1)+1≤j→j<la.length→dg la j=dg lb j:=fun j h1 h2=>hz j (by omega) h2
   refine Wc.gc 14 [1] ?_
   refine Wc.draw [] [] T.mixed rfl ?_
   refine Gm.c 0 [] [] ?_
   refine Gm.c 1 [] [] ?_
   refine Gm.u 2 [] rfl (Qy.at (α:=U32) T.sl123 rfl rfl (by assumption) (by omega)) ?_
   refine Gm.u 3 [] rfl (Qy.loadG T.one215 rfl (Arr.cell (by assumption) (by omega) 0 rfl rfl)) ?_
   refine Gm.c 4 [] [] ?_
   refine Gm.c 5 [] [] ?_
   refine Gm.u 6 [] rfl (Qy.at (α:=U32) T.sl123 rfl rfl (by assumption) (by omega)) ?_
   refine Gm.u 7 [] rfl (Qy.loadG T.one215 rfl (Arr.cell (by assumption) (by omega) 0 rfl rfl)) ?_
   refine Gm.c 8 [] [] ?_
   refine Gm.fin ?_
   refine Ar.next ?_
   refine Wc.cond rfl (fun hc1=>?_) (fun hc1=>?_)
   refine Wc.ga 12 [] ?_
   refine Ar.e1 ?_
   rotate_left
   refine Wc.gc 3 [] ?_
   refine Wc.draw [] [] T.mixed rfl ?_
   refine Gm.c 0 [] [] ?_
   refine Gm.c 1 [] [] ?_
   refine Gm.u 2 [] rfl (Qy.at (α:=U32) T.sl123 rfl rfl (by assumption) (by omega)) ?_
   refine Gm.u 3 [] rfl (Qy.loadG T.one215 rfl (Arr.cell (by assumption) (by omega) 0 rfl rfl)) ?_
   refine Gm.c 4 [] [] ?_
   refine Gm.c 5 [] [] ?_
   refine Gm.u 6 [] rfl (Qy.at (α:=U32) T.sl123 rfl rfl (by assumption) (by omega)) ?_
   refine Gm.u 7 [] rfl (Qy.loadG T.one215 rfl (Arr.cell (by assumption) (by omega) 0 rfl rfl)) ?_
   refine Gm.c 8 [] [] ?_
   refine Gm.fin ?_
   refine Ar.next ?_
   refine Wc.cond rfl (fun hc2=>?_) (fun hc2=>?_)
   refine Wc.ga 11 [] ?_
   refine Ar.e1 ?_
   rotate_left
   refine Wc.ga 8 [] ?_
   rotate_left
   · exact ⟨by rw [cmpZ_lt (high_lt hn (by omega) da db hz' (by omega))],rfl,rfl⟩
   · exact ⟨by rw [cmpZ_gt (high_lt hn.symm (by omega) db da (fun j h1 h2=>(hz' j h1 (by omega)).symm) (by omega))],rfl,rfl⟩
   refine Ar.re 5 rfl (show _=Value.int .i64 (((k - 1:Nat):Int) - 1) by congr 1;omega) ?_
   refine Ar.again (k - 1) ?_ ?_ rfl ⟨rfl,rfl,rfl,trivial⟩ trivial
   · refine ⟨by omega,fun j h1 h2=>?_⟩
     rcases Nat.lt_or_ge j k with h3 | h3
     · have e:j=k - 1:=by omega
       rw [e];omega
     exact hz j h3 h2
   omega
 by_cases hlt:la.length<lb.length
 · refine Wc.ga 35 [1,1] ?_
   refine Ar.e1 ?_
   exact ⟨by rw [cmpZ_lt (top_lt_len da db tb hlt)],rfl,rfl⟩
 refine Wc.ga 36 [1,0] ?_
 refine Ar.e1 ?_
 exact ⟨by rw [cmpZ_gt (top_lt_len db da ta (by omega))],rfl,rfl⟩
theorem c215 (G:Imm) (neg:Bool) (a:Option Addr) (c:Nat) (l:List U32) (z:Int) (h:IsInt neg l z) (h1:l.length≤1073741824) :
 Does Tryz.prog 215 [.agg #[.bool neg,.slice a l.length c]] G [] (fun v G' Ho=>v=.int .i64 (sgZ z)∧G'=G∧Ho=[]):=by
 have hz:=h.zero_iff
 have hn:=h.neg_iff
 refine Does.enter Tryz.func215 rfl Tryz.ntmps215 rfl (fun w=>?_)
 by_cases h0:l.length=0
 · have hz0:=hz.1 h0
   refine Wc.gl 2 [] ?_
   refine Wl.box 0 rfl rfl rfl (fun b1=>?_)
   refine Wl.ga 20 [0,1] ?_
   refine Ar.e1 ?_
   exact ⟨by rw [hz0];rfl,rfl,rfl⟩
 have hz0:z≠0:=fun e=>h0 (hz.2 e)
 by_cases hs:z<0
 · rw [hn,decide_eq_true hs]
   refine Wc.gl 2 [] ?_
   refine Wl.box 0 rfl rfl rfl (fun b1=>?_)
   refine Wl.ga 30 [0,0,0,1] ?_
   refine Ar.e1 ?_
   exact ⟨by unfold sgZ;rw [if_neg hz0,if_pos hs],rfl,rfl⟩
 rw [hn,decide_eq_false hs]
 refine Wc.gl 2 [] ?_
 refine Wl.box 0 rfl rfl rfl (fun b1=>?_)
 refine Wl.ga 31 [0,0,0,0] ?_
 refine Ar.e1 ?_
 exact ⟨by unfold sgZ;rw [if_neg hz0,if_neg hs],rfl,rfl⟩
theorem c167 (G:Imm) (n1 n2:Bool) (a b:Option Addr) (ca cb:Nat) (la lb:List U32) (x y:Int) (ha:Arr G a la) (hb:Arr G b lb) (hx:IsInt n1 la x) (hy:IsInt n2 lb y) (h1:la.length≤1073741824) (h2:lb.length≤1073741824) :
 Does Tryz.prog 167 [.agg #[.bool n1,.slice a la.length ca],.agg #[.bool n2,.slice b lb.length cb]] G [] (fun v G' Ho=>v=.int .i64 (cmpZ x y)∧G'=G∧Ho=[]):=by
 have da:=hx.digs
 have db:=hy.digs
 have ta:=hx.top
 have tb:=hy.top
 have va:=hx.abs
 have vb:=hy.abs
 have cs:∀ u v:Int,u<v→cmpZ u v=-1:=fun u v h=>cmpZ_lt h
 have cg:∀ u v:Int,v<u→cmpZ u v=1:=fun u v h=>cmpZ_gt h
 refine Does.enter Tryz.func167 rfl Tryz.ntmps167 rfl (fun w=>?_)
 have sx:(sgZ x=-1∧x<0)∨(sgZ x=0∧x=0)∨(sgZ x=1∧0<x):=by
  rcases Int.lt_trichotomy x 0 with h | h | h
  · exact .inl ⟨sgZ_lt h,h⟩
  · exact .inr (.inl ⟨sgZ_eq h,h⟩)
  exact .inr (.inr ⟨sgZ_gt h,h⟩)
 have sy:(sgZ y=-1∧y<0)∨(sgZ y=0∧y=0)∨(sgZ y=1∧0<y):=by
  rcases Int.lt_trichotomy y 0 with h | h | h
  · exact .inl ⟨sgZ_lt h,h⟩
  · exact .inr (.inl ⟨sgZ_eq h,h⟩)
  exact .inr (.inr ⟨sgZ_gt h,h⟩)
 refine Wc.gl 2 [] ?_
 refine Wl.box 0 rfl rfl rfl (fun b1=>?_)
 refine Wl.box 1 rfl rfl rfl (fun b2=>?_)
 refine Wl.gc 4 [] ?_
 refine Wc.draw [0,1] [] T.mixed rfl ?_
 refine Gm.c 0 [0] [0] ?_
 refine Gm.c 2 [1] [1] ?_
 refine Gm.o1 1 ?_
 refine Wl.k0 rfl (c215 _ _ _ _ _ _ (by assumption) (by assumption)) ?_
 refine Wl.on0 ?_
 refine Gm.o1 3 ?_
 refine Wl.k0 rfl (c215 _ _ _ _ _ _ (by assumption) (by assumption)) ?_
 refine Wl.on0 ?_
 refine Gm.c 4 [] [] ?_
 refine Gm.c 5 [] [] ?_
 refine Gm.fin ?_
 refine Ar.gc 9 [] ?_
 refine Wc.cond rfl (fun hc1=>?_) (fun hc1=>?_)
 refine Wc.gc 8 [] ?_
 refine Wc.cond rfl (fun hc2=>?_) (fun hc2=>?_)
 refine Wc.ga 8 [] ?_
 refine Ar.e1 ?_
 rotate_left
 refine Wc.ga 9 [] ?_
 refine Ar.e1 ?_
 rotate_left
 refine Wc.gc 9 [] ?_
 refine Wc.cond rfl (fun hc2=>?_) (fun hc2=>?_)
 refine Wc.gl 6 [1,0] ?_
 refine Wl.k0 rfl (c216 _ _ _ _ _ _ _ (by assumption) (by assumption) (by assumption) (by assumption) (by assumption) (by assumption) (by assumption) (by assumption)) ?_
 refine Wl.ga 5 [] ?_
 refine Ar.e1 ?_
 rotate_left
 refine Wc.gl 8 [0,1] ?_
 refine Wl.k0 rfl (c216 _ _ _ _ _ _ _ (by assumption) (by assumption) (by assumption) (by assumption) (by assumption) (by assumption) (by assumption) (by assumption)) ?_
 refine Wl.ga 4 [] ?_
 refine Ar.e1 ?_
 rotate_left
 · exact ⟨by rw [cs x y (by omega)],rfl,rfl⟩
 · exact ⟨by rw [cg x y (by omega)],rfl,rfl⟩
 · exact ⟨by rw [cmpZ_congr (x:=valL lb) (y:=valL la) (u:=x) (v:=y) (by omega) (by omega)],rfl,rfl⟩
 exact ⟨by rw [cmpZ_congr (x:=valL la) (y:=valL lb) (u:=x) (v:=y) (by omega) (by omega)],rfl,rfl⟩
end Go.Proofs.YtfdcckcadfhpeaaGreatDoor
namespace Go.Proofs.YtfdcckcadfhpeaaGreatDoor
open Go Go.Sl
set_option maxHeartbeats 4000000
attribute [local irreducible] valL pw cmpZ
theorem c285 (G:Imm) (neg:Bool) (a:Option Addr) (c:Nat) (l:List U32) (z:Int) (ha:Arr G a l) (h:IsInt neg l z) (h1:l.length≤1073741824) (hc:l.length≤c) :
 Does Tryz.prog 285 [.agg #[.bool neg,.slice a l.length c]] G [] (fun v G' Ho=>∃ r:IV,v=.agg #[.bool r.neg,.slice r.a r.n r.c]∧Num G r (-z)∧G'=G∧Ho=[]):=by
 refine Does.enter Tryz.func285 rfl Tryz.ntmps285 rfl (fun w=>?_)
 refine Wc.gl 2 [] ?_
 refine Wl.box 0 rfl rfl rfl (fun b1=>?_)
 refine Wl.alloc 1 rfl T.zero190 (fun b2=>?_)
 refine Wl.gl 9 [0,0] ?_
 refine Wl.k 2 rfl (c168 _ _ _ _ _ (by assumption) (by omega) (by assumption)) (fun v1 G1 Ho1 hle1 hp=>?_)
 obtain ⟨tn1,rfl,htr1,rfl,rfl⟩:=hp
 refine Wl.ga 4 [1] ?_
 refine Ar.out1 (.inr rfl) (Ho:=Hp.only _ []) rfl (.agg 1 rfl rfl T.agg190) (Hp.sub_only _ _) ?_
 refine ⟨⟨!neg && decide (0<tn1),subA a c 0 1,tn1,c⟩,rfl,?_,rfl,rfl⟩
 have e:=htr1.num h.digs ha hc (!neg)
 have e2:(if (!neg)=true then -valL l else valL l)=-z:=by
  rw [h.val];cases neg <;> simp
 rw [e2] at e;exact e
theorem c280 (G:Imm) (neg:Bool) (a:Option Addr) (c:Nat) (l:List U32) (z:Int) (ha:Arr G a l) (h:IsInt neg l z) (h1:l.length≤1073741824) (hc:l.length≤c) :
 Does Tryz.prog 280 [.agg #[.bool neg,.slice a l.length c]] G [] (fun v G' Ho=>∃ r:IV,v=.agg #[.bool r.neg,.slice r.a r.n r.c]∧Num G r (z.natAbs:Int)∧G'=G∧Ho=[]):=by
 refine Does.enter Tryz.func280 rfl Tryz.ntmps280 rfl (fun w=>?_)
 refine Wc.gl 2 [] ?_
 refine Wl.box 0 rfl rfl rfl (fun b1=>?_)
 refine Wl.alloc 1 rfl T.zero190 (fun b2=>?_)
 refine Wl.gl 6 [0] ?_
 refine Wl.k 2 rfl (c168 _ _ _ _ _ (by assumption) (by omega) (by assumption)) (fun v1 G1 Ho1 hle1 hp=>?_)
 obtain ⟨tn1,rfl,htr1,rfl,rfl⟩:=hp
 refine Wl.ga 4 [1] ?_
 refine Ar.out1 (.inr rfl) (Ho:=Hp.only _ []) rfl (.agg 1 rfl rfl T.agg190) (Hp.sub_only _ _) ?_
 refine ⟨⟨false && decide (0<tn1),subA a c 0 1,tn1,c⟩,rfl,?_,rfl,rfl⟩
 have e:=htr1.num h.digs ha hc false
 rw [if_neg (by decide),h.abs] at e
 exact e
theorem pw_lt_iff {a b:Nat} (h:pw a<pw b):a<b:=by
 rcases Nat.lt_or_ge a b with h1 | h1
 · exact h1
 have:=pw_le h1;omega
theorem of_next {r:List U32} {u m:Int} (h:valL r+pw r.length*u=m):valL (r++[(⟨u % 65536⟩:U32)])+pw (r++[(⟨u % 65536⟩:U32)]).length*(u / 65536)=m:=by
 rw [valL_snoc,List.length_append,List.length_singleton,pw_succ]
 have:=carry (pw r.length) u
 show valL r+pw r.length*(u % 65536)+65536*pw r.length*(u / 65536)=m
 omega
theorem of_len {r:List U32} {u m:Int} (h:valL r+pw r.length*u=m) (hd:Digs r) (hu:0<u) (hm:m≤9223372036854775808):r.length<4:=by
 have h1:=valL_nonneg hd
 have h2:=Int.mul_le_mul_of_nonneg_left (show (1:Int)≤u by omega) (Int.le_of_lt (pw_pos r.length))
 refine pw_lt_iff ?_
 have h3:pw 4=18446744073709551616:=by unfold pw;decide
 omega
theorem c120 (G:Imm) (n:Int) (hn:-9223372036854775808≤n∧n≤9223372036854775807) :
 Does Tryz.prog 120 [.int .i64 n] G [] (fun v G' Ho=>∃ r:IV,v=.agg #[.bool r.neg,.slice r.a r.n r.c]∧Num G' r n∧Ho=[]):=by
 refine Does.enter Tryz.func120 rfl Tryz.ntmps120 rfl (fun w=>?_)
 refine Wc.nilRow 0 (Row 215 ([]:List U32) []) ?_
 by_cases hneg:n<0
 · refine Wc.gl 2 [] ?_
   refine Wl.alloc 1 rfl T.zero190 (fun b1=>?_)
   refine Wl.gl 5 [] ?_
   refine Wl.q rfl (Qy.conv rfl T.u214 rfl) ?_
   refine Wl.gl 13 [1] ?_
   refine Wl.q rfl (Qy.negW rfl) ?_
   refine Wl.gc 10 [] ?_
   refine Wc.re 3 rfl (show _=Value.int .u64 (-n) by rw [wrap_neg ⟨hn.1,hneg⟩]) ?_
   refine Wc.loop (ι:=Int×List U32×(Option Addr×Nat×List Value)) (fun (u,r,(o,d,j))=>([(3,.int .u64 u),(4,.slice o r.length d),(2,.pointer (some ⟨b1,0,none⟩)),(0,.int .i64 n)],[(0,o.map (·.block),Row 215 r j),(1,some b1,.cells #[.bool Bool.false,.slice none 0 0] 190)])) (fun (u,r,(o,d,j))=>0≤u∧u≤9223372036854775808∧Digs r∧valL r+pw r.length*u=n.natAbs∧r.length≤4∧OwnA o d r j) (fun (u,r,(o,d,j))=>u.toNat) ((-n,[],(none,0,[]))) (⟨by omega,by omega,Digs.nil,by rw [valL_nil,List.length_nil,pw_zero];omega,by decide,OwnA.nil⟩) ⟨rfl,rfl,rfl,rfl,trivial⟩ ⟨rfl,rfl,trivial⟩ (fun ⟨u,r,(o,d,j)⟩=>fun hk=>?_)
   obtain ⟨hu0,hu1,hdr,hv,hrl,hob⟩:=hk
   by_cases hu:0<u
   · have hl4:=of_len hv hdr hu (by omega)
     refine Wc.gl 15 [1] ?_
     refine Wl.q rfl (Qy.urem rfl rfl (by omega)) ?_
     refine Wl.q rfl (Qy.conv32 rfl T.u215 rfl (by omega)) ?_
     refine Wl.lit (α:=U32) 2 [⟨u % 65536⟩] rfl T.sl123 T.el215 rfl rfl rfl rfl rfl (fun b2=>?_)
     refine Wl.append (α:=U32) 0 rfl T.sl123 T.el215 rfl rfl rfl (by first | assumption | exact OwnA.nil | exact OwnA.made (by simp)) (Src.row 2 rfl) (by first | omega | (simp only [List.length_append,List.length_cons,List.length_nil,maxLen];omega)) (by first | omega | (simp only [List.length_append,List.length_cons,List.length_nil,maxLen];omega)) (fun a1 c1 junk1 ho1=>?_)
     refine Wl.gl 5 [] ?_
     refine Wl.q rfl (Qy.uquo64 rfl rfl (by omega)) ?_
     refine Wl.ga 3 [] ?_
     refine Ar.again ((u / 65536,_,(a1,c1,junk1))) ?_ ?_ rfl ⟨rfl,rfl,rfl,rfl,trivial⟩ ⟨rfl,rfl,trivial⟩
     · exact ⟨by omega,by omega,digs_snoc hdr _,of_next hv,by rw [List.length_append];show r.length+1≤4;omega,ho1⟩
     show (u / 65536).toNat<u.toNat
     omega
   have hu:u=0:=by omega
   subst hu
   rw [Int.mul_zero,Int.add_zero] at hv
   refine Wc.gl 18 [0] ?_
   have hcap:=hob.le
   refine Wl.freezeRow 0 rfl hob (fun G1 hle1 hA=>?_)
   refine Wl.k 2 rfl (c168 _ _ _ _ _ (by assumption) (by omega) (by assumption)) (fun v2 G2 Ho2 hle2 hp=>?_)
   obtain ⟨tn2,rfl,htr2,rfl,rfl⟩:=hp
   refine Wl.ga 4 [1] ?_
   refine Ar.out1 (.inr rfl) (Ho:=Hp.only _ []) rfl (.agg 1 rfl rfl T.agg190) (Hp.sub_only _ _) ?_
   refine ⟨⟨decide (n<0) && decide (0<tn2),subA o d 0 1,tn2,d⟩,rfl,?_,rfl⟩
   have e:=htr2.num hdr hA hcap (decide (n<0))
   have e2:(if decide (n<0)=true then -valL r else valL r)=n:=by
    rw [hv];by_cases h:n<0
    · rw [if_pos (by simpa using h)];omega
    rw [if_neg (by simpa using h)];omega
   rw [e2] at e;exact e
 refine Wc.gl 2 [] ?_
 refine Wl.alloc 1 rfl T.zero190 (fun b1=>?_)
 refine Wl.gl 5 [] ?_
 refine Wl.q rfl (Qy.conv64 rfl T.u214 rfl (by omega)) ?_
 refine Wl.gc 20 [0] ?_
 refine Wc.loop (ι:=Int×List U32×(Option Addr×Nat×List Value)) (fun (u,r,(o,d,j))=>([(3,.int .u64 u),(4,.slice o r.length d),(2,.pointer (some ⟨b1,0,none⟩)),(0,.int .i64 n)],[(0,o.map (·.block),Row 215 r j),(1,some b1,.cells #[.bool Bool.false,.slice none 0 0] 190)])) (fun (u,r,(o,d,j))=>0≤u∧u≤9223372036854775808∧Digs r∧valL r+pw r.length*u=n.natAbs∧r.length≤4∧OwnA o d r j) (fun (u,r,(o,d,j))=>u.toNat) ((n,[],(none,0,[]))) (⟨by omega,by omega,Digs.nil,by rw [valL_nil,List.length_nil,pw_zero];omega,by decide,OwnA.nil⟩) ⟨rfl,rfl,rfl,rfl,trivial⟩ ⟨rfl,rfl,trivial⟩ (fun ⟨u,r,(o,d,j)⟩=>fun hk=>?_)
 obtain ⟨hu0,hu1,hdr,hv,hrl,hob⟩:=hk
 by_cases hu:0<u
 · have hl4:=of_len hv hdr hu (by omega)
   refine Wc.gl 15 [1] ?_
   refine Wl.q rfl (Qy.urem rfl rfl (by omega)) ?_
   refine Wl.q rfl (Qy.conv32 rfl T.u215 rfl (by omega)) ?_
   refine Wl.lit (α:=U32) 2 [⟨u % 65536⟩] rfl T.sl123 T.el215 rfl rfl rfl rfl rfl (fun b2=>?_)
   refine Wl.append (α:=U32) 0 rfl T.sl123 T.el215 rfl rfl rfl (by first | assumption | exact OwnA.nil | exact OwnA.made (by simp)) (Src.row 2 rfl) (by first | omega | (simp only [List.length_append,List.length_cons,List.length_nil,maxLen];omega)) (by first | omega | (simp only [List.length_append,List.length_cons,List.length_nil,maxLen];omega)) (fun a1 c1 junk1 ho1=>?_)
   refine Wl.gl 5 [] ?_
   refine Wl.q rfl (Qy.uquo64 rfl rfl (by omega)) ?_
   refine Wl.ga 3 [] ?_
   refine Ar.again ((u / 65536,_,(a1,c1,junk1))) ?_ ?_ rfl ⟨rfl,rfl,rfl,rfl,trivial⟩ ⟨rfl,rfl,trivial⟩
   · exact ⟨by omega,by omega,digs_snoc hdr _,of_next hv,by rw [List.length_append];show r.length+1≤4;omega,ho1⟩
   show (u / 65536).toNat<u.toNat
   omega
 have hu:u=0:=by omega
 subst hu
 rw [Int.mul_zero,Int.add_zero] at hv
 refine Wc.gl 18 [0] ?_
 have hcap:=hob.le
 refine Wl.freezeRow 0 rfl hob (fun G1 hle1 hA=>?_)
 refine Wl.k 2 rfl (c168 _ _ _ _ _ (by assumption) (by omega) (by assumption)) (fun v2 G2 Ho2 hle2 hp=>?_)
 obtain ⟨tn2,rfl,htr2,rfl,rfl⟩:=hp
 refine Wl.ga 4 [1] ?_
 refine Ar.out1 (.inr rfl) (Ho:=Hp.only _ []) rfl (.agg 1 rfl rfl T.agg190) (Hp.sub_only _ _) ?_
 refine ⟨⟨decide (n<0) && decide (0<tn2),subA o d 0 1,tn2,d⟩,rfl,?_,rfl⟩
 have e:=htr2.num hdr hA hcap (decide (n<0))
 have e2:(if decide (n<0)=true then -valL r else valL r)=n:=by
  rw [hv];by_cases h:n<0
  · rw [if_pos (by simpa using h)];omega
  rw [if_neg (by simpa using h)];omega
 rw [e2] at e;exact e
theorem c267 (G:Imm) (n1 n2:Bool) (a b:Option Addr) (ca cb:Nat) (la lb:List U32) (x y:Int) (ha:Arr G a la) (hb:Arr G b lb) (hx:IsInt n1 la x) (hy:IsInt n2 lb y) (h1:la.length≤1073741824) (h2:lb.length≤1073741824) :
 Does Tryz.prog 267 [.agg #[.bool n1,.slice a la.length ca],.agg #[.bool n2,.slice b lb.length cb]] G [] (fun v G' Ho=>∃ r:IV,v=.agg #[.bool r.neg,.slice r.a r.n r.c]∧Num G' r (x+y)∧Ho=[]):=by
 have da:=hx.digs
 have db:=hy.digs
 have ta:=hx.top
 have tb:=hy.top
 refine Does.enter Tryz.func267 rfl Tryz.ntmps267 rfl (fun w=>?_)
 by_cases hs:n1=n2
 · refine Wc.gl 2 [] ?_
   refine Wl.box 0 rfl rfl rfl (fun b1=>?_)
   refine Wl.box 1 rfl rfl rfl (fun b2=>?_)
   refine Wl.alloc 2 rfl T.zero190 (fun b3=>?_)
   refine Wl.gl 9 [0,1] ?_
   refine Wl.q rfl (Qy.eqlB T.u4 rfl rfl) ?_
   refine Wl.gc 4 [1] ?_
   refine Wc.draw [0,1,2] [(2,8)] T.mixed rfl ?_
   refine Gm.c 0 [] [] ?_
   refine Gm.c 1 [0] [0] ?_
   refine Gm.c 2 [] [] ?_
   refine Gm.c 3 [0] [0] ?_
   refine Gm.c 4 [] [] ?_
   refine Gm.c 5 [1] [1] ?_
   refine Gm.o1 6 ?_
   refine Wl.k 3 rfl (c277 _ _ _ _ _ _ _ (by assumption) (by assumption) (by assumption) (by assumption) (by assumption) (by assumption)) (fun v1 G1 Ho1 hle1 hp=>?_)
   obtain ⟨po1,pc1,pr1,pj1,rfl,hpo1,rfl,rfl,hpd1,hpv1,hpl1⟩:=hp
   refine Wl.on0 ?_
   refine Gm.o1 7 ?_
   have hcap:=hpo1.le
   refine Wl.freezeRow 3 rfl hpo1 (fun G9 hle9 hA=>?_)
   refine Wl.k 4 rfl (c168 _ _ _ _ _ (by assumption) (by omega) (by assumption)) (fun v2 G2 Ho2 hle2 hp=>?_)
   obtain ⟨tn2,rfl,htr2,rfl,rfl⟩:=hp
   refine Wl.on0 ?_
   refine Gm.o1 8 ?_
   refine Wl.storeAll 2 T.size190 rfl rfl rfl rfl rfl rfl ?_
   refine Wl.on0 ?_
   refine Gm.fin ?_
   refine Ar.ga 3 [] ?_
   refine Ar.out1 (.inr rfl) (Ho:=Hp.only _ []) rfl (.agg 2 rfl rfl T.agg190) (Hp.sub_only _ _) ?_
   refine ⟨⟨n1 && decide (0<tn2),subA po1 pc1 0 1,tn2,pc1⟩,rfl,?_,rfl⟩
   have e:=htr2.num hpd1 hA hcap n1
   have e2:(if n1=true then -valL pr1 else valL pr1)=x+y:=by
    rw [hpv1,hx.val,hy.val]
    revert hs
    cases n1 <;> cases n2 <;> simp <;> omega
   rw [e2] at e;exact e
 by_cases hle:valL lb≤valL la
 · have hcmp:0≤cmpZ (valL la) (valL lb):=by
    rcases Int.lt_or_eq_of_le hle with h | h
    · rw [cmpZ_gt h];decide
    rw [cmpZ_eq h.symm];decide
   have hll:lb.length≤la.length:=by
    rcases Nat.lt_or_ge la.length lb.length with h | h
    · have:=top_lt_len da db tb h;omega
    exact h
   refine Wc.gl 2 [] ?_
   refine Wl.box 0 rfl rfl rfl (fun b1=>?_)
   refine Wl.box 1 rfl rfl rfl (fun b2=>?_)
   refine Wl.alloc 2 rfl T.zero190 (fun b3=>?_)
   refine Wl.gl 9 [0,1] ?_
   refine Wl.q rfl (Qy.eqlB T.u4 rfl rfl) ?_
   refine Wl.gl 12 [0,0,1] ?_
   refine Wl.k0 rfl (c216 _ _ _ _ _ _ _ (by assumption) (by assumption) (by assumption) (by assumption) (by assumption) (by assumption) (by assumption) (by assumption)) ?_
   refine Wl.gc 5 [1] ?_
   refine Wc.draw [0,1,2] [(2,8)] T.mixed rfl ?_
   refine Gm.c 0 [] [] ?_
   refine Gm.c 1 [0] [0] ?_
   refine Gm.c 2 [] [] ?_
   refine Gm.c 3 [0] [0] ?_
   refine Gm.c 4 [] [] ?_
   refine Gm.c 5 [1] [1] ?_
   refine Gm.o1 6 ?_
   refine Wl.k 3 rfl (c278 _ _ _ _ _ _ _ (by assumption) (by assumption) (by assumption) (by assumption) (by assumption) (by assumption) (by assumption)) (fun v1 G1 Ho1 hle1 hp=>?_)
   obtain ⟨po1,pc1,pr1,pj1,rfl,hpo1,rfl,rfl,hpd1,hpv1,hpl1⟩:=hp
   refine Wl.on0 ?_
   refine Gm.o1 7 ?_
   have hcap:=hpo1.le
   refine Wl.freezeRow 3 rfl hpo1 (fun G9 hle9 hA=>?_)
   refine Wl.k 4 rfl (c168 _ _ _ _ _ (by assumption) (by omega) (by assumption)) (fun v2 G2 Ho2 hle2 hp=>?_)
   obtain ⟨tn2,rfl,htr2,rfl,rfl⟩:=hp
   refine Wl.on0 ?_
   refine Gm.o1 8 ?_
   refine Wl.storeAll 2 T.size190 rfl rfl rfl rfl rfl rfl ?_
   refine Wl.on0 ?_
   refine Gm.fin ?_
   refine Ar.ga 3 [] ?_
   refine Ar.out1 (.inr rfl) (Ho:=Hp.only _ []) rfl (.agg 2 rfl rfl T.agg190) (Hp.sub_only _ _) ?_
   refine ⟨⟨n1 && decide (0<tn2),subA po1 pc1 0 1,tn2,pc1⟩,rfl,?_,rfl⟩
   have e:=htr2.num hpd1 hA hcap n1
   have e2:(if n1=true then -valL pr1 else valL pr1)=x+y:=by
    rw [hpv1,hx.val,hy.val]
    revert hs
    cases n1 <;> cases n2 <;> simp <;> omega
   rw [e2] at e;exact e
 have hcmp:¬0≤cmpZ (valL la) (valL lb):=by rw [cmpZ_lt (by omega)];decide
 have hge9:valL la≤valL lb:=by omega
 have hll:la.length≤lb.length:=by
  rcases Nat.lt_or_ge lb.length la.length with h | h
  · have:=top_lt_len db da ta h;omega
  exact h
 refine Wc.gl 2 [] ?_
 refine Wl.box 0 rfl rfl rfl (fun b1=>?_)
 refine Wl.box 1 rfl rfl rfl (fun b2=>?_)
 refine Wl.alloc 2 rfl T.zero190 (fun b3=>?_)
 refine Wl.gl 9 [0,1] ?_
 refine Wl.q rfl (Qy.eqlB T.u4 rfl rfl) ?_
 refine Wl.gl 12 [0,0,1] ?_
 refine Wl.k0 rfl (c216 _ _ _ _ _ _ _ (by assumption) (by assumption) (by assumption) (by assumption) (by assumption) (by assumption) (by assumption) (by assumption)) ?_
 refine Wl.gc 7 [0] ?_
 refine Wc.draw [0,1,2] [(2,8)] T.mixed rfl ?_
 refine Gm.c 0 [] [] ?_
 refine Gm.c 1 [1] [1] ?_
 refine Gm.c 2 [] [] ?_
 refine Gm.c 3 [1] [1] ?_
 refine Gm.c 4 [] [] ?_
 refine Gm.c 5 [0] [0] ?_
 refine Gm.o1 6 ?_
 refine Wl.k 3 rfl (c278 _ _ _ _ _ _ _ (by assumption) (by assumption) (by assumption) (by assumption) (by assumption) (by assumption) (by assumption)) (fun v1 G1 Ho1 hle1 hp=>?_)
 obtain ⟨po1,pc1,pr1,pj1,rfl,hpo1,rfl,rfl,hpd1,hpv1,hpl1⟩:=hp
 refine Wl.on0 ?_
 refine Gm.o1 7 ?_
 have hcap:=hpo1.le
 refine Wl.freezeRow 3 rfl hpo1 (fun G9 hle9 hA=>?_)
 refine Wl.k 4 rfl (c168 _ _ _ _ _ (by assumption) (by omega) (by assumption)) (fun v2 G2 Ho2 hle2 hp=>?_)
 obtain ⟨tn2,rfl,htr2,rfl,rfl⟩:=hp
 refine Wl.on0 ?_
 refine Gm.o1 8 ?_
 refine Wl.storeAll 2 T.size190 rfl rfl rfl rfl rfl rfl ?_
 refine Wl.on0 ?_
 refine Gm.fin ?_
 refine Ar.ga 2 [] ?_
 refine Ar.out1 (.inr rfl) (Ho:=Hp.only _ []) rfl (.agg 2 rfl rfl T.agg190) (Hp.sub_only _ _) ?_
 refine ⟨⟨n2 && decide (0<tn2),subA po1 pc1 0 1,tn2,pc1⟩,rfl,?_,rfl⟩
 have e:=htr2.num hpd1 hA hcap n2
 have e2:(if n2=true then -valL pr1 else valL pr1)=x+y:=by
  rw [hpv1,hx.val,hy.val]
  revert hs
  cases n1 <;> cases n2 <;> simp <;> omega
 rw [e2] at e;exact e
theorem c281 (G:Imm) (n1 n2:Bool) (a b:Option Addr) (ca cb:Nat) (la lb:List U32) (x y:Int) (ha:Arr G a la) (hb:Arr G b lb) (hx:IsInt n1 la x) (hy:IsInt n2 lb y) (h1:la.length≤1073741824) (h2:lb.length≤1073741824) (hcb:lb.length≤cb) :
 Does Tryz.prog 281 [.agg #[.bool n1,.slice a la.length ca],.agg #[.bool n2,.slice b lb.length cb]] G [] (fun v G' Ho=>∃ r:IV,v=.agg #[.bool r.neg,.slice r.a r.n r.c]∧Num G' r (x - y)∧Ho=[]):=by
 refine Does.enter Tryz.func281 rfl Tryz.ntmps281 rfl (fun w=>?_)
 refine Wc.gl 2 [] ?_
 refine Wl.box 0 rfl rfl rfl (fun b1=>?_)
 refine Wl.box 1 rfl rfl rfl (fun b2=>?_)
 refine Wl.alloc 2 rfl T.zero190 (fun b3=>?_)
 refine Wl.gc 3 [] ?_
 refine Wc.draw [0,1,2] [(2,4)] T.mixed rfl ?_
 refine Gm.c 0 [0] [0] ?_
 refine Gm.c 1 [1] [1] ?_
 refine Gm.o1 2 ?_
 refine Wl.k 3 rfl (c285 _ _ _ _ _ _ (by assumption) (by assumption) (by assumption) (by assumption)) (fun v1 G1 Ho1 hle1 hp=>?_)
 obtain ⟨nr1,rfl,hnr1,rfl,rfl⟩:=hp
 refine Wl.on0 ?_
 refine Gm.o1 3 ?_
 obtain ⟨rn,ra,rk,rc⟩:=nr1
 obtain ⟨l,hl,hlc,hA,hI⟩:=hnr1
 simp only at hl hlc hA hI
 subst hl
 have hll:l.length≤lb.length:=hI.len (by
  have:=valL_lt hy.digs
  rw [hy.abs] at this
  omega)
 refine Wl.k 20 rfl (c267 _ _ _ _ _ _ _ _ _ _ _ ha hA hx hI h1 (by omega)) (fun v2 G2 Ho2 hle2 hp=>?_)
 obtain ⟨r2,rfl,hr2,rfl⟩:=hp
 refine Wl.on0 ?_
 refine Gm.o1 4 ?_
 refine Wl.storeAll 2 T.size190 rfl rfl rfl rfl rfl rfl ?_
 refine Wl.on0 ?_
 refine Gm.fin ?_
 refine Ar.ga 2 [] ?_
 refine Ar.out1 (.inr rfl) (Ho:=Hp.only _ []) rfl (.agg 2 rfl rfl T.agg190) (Hp.sub_only _ _) ?_
 refine ⟨r2,rfl,?_,rfl⟩
 rw [Int.sub_eq_add_neg];exact hr2
theorem num_add (G:Imm) (x y:IV) (zx zy:Int) (hx:Num G x zx) (hy:Num G y zy) (h1:x.n≤1073741824) (h2:y.n≤1073741824) :
 Does Tryz.prog 267 [.agg (Cells.enc x).toArray,.agg (Cells.enc y).toArray] G [] (fun v G' Ho=>∃ r:IV,v=.agg (Cells.enc r).toArray∧Num G' r (zx+zy)∧Ho=[]):=by
 obtain ⟨n1,a,k1,ca⟩:=x
 obtain ⟨n2,b,k2,cb⟩:=y
 obtain ⟨la,hl,hlc,hA,hI⟩:=hx
 obtain ⟨lb,hl',hlc',hA',hI'⟩:=hy
 simp only at hl hlc hA hI hl' hlc' hA' hI' h1 h2
 subst hl hl'
 exact c267 G n1 n2 a b ca cb la lb zx zy hA hA' hI hI' h1 h2
theorem num_cmp (G:Imm) (x y:IV) (zx zy:Int) (hx:Num G x zx) (hy:Num G y zy) (h1:x.n≤1073741824) (h2:y.n≤1073741824) :
 Does Tryz.prog 167 [.agg (Cells.enc x).toArray,.agg (Cells.enc y).toArray] G [] (fun v G' Ho=>v=.int .i64 (cmpZ zx zy)∧G'=G∧Ho=[]):=by
 obtain ⟨n1,a,k1,ca⟩:=x
 obtain ⟨n2,b,k2,cb⟩:=y
 obtain ⟨la,hl,hlc,hA,hI⟩:=hx
 obtain ⟨lb,hl',hlc',hA',hI'⟩:=hy
 simp only at hl hlc hA hI hl' hlc' hA' hI' h1 h2
 subst hl hl'
 exact c167 G n1 n2 a b ca cb la lb zx zy hA hA' hI hI' h1 h2
end Go.Proofs.YtfdcckcadfhpeaaGreatDoor
namespace Go.Proofs.YtfdcckcadfhpeaaGreatDoor
open Go Go.Sl
set_option maxHeartbeats 4000000
theorem valL_set:∀ (l:List U32) (k:Nat) (d:U32),k<l.length→valL (l.set k d)=valL l+pw k*(d.v - dg l k)
 | [],k,d,h=>by simp at h
 | x :: l,0,d,_=>by
   rw [List.set_cons_zero,valL_cons,valL_cons,pw_zero]
   show _=_+1*(d.v - x.v)
   omega
 | x :: l,k+1,d,h=>by
   have ih:=valL_set l k d (by simpa using h)
   have e:dg (x :: l) (k+1)=dg l k:=by unfold dg;rw [Int.toNat_natCast,Int.toNat_natCast,List.getElem?_cons_succ]
   rw [List.set_cons_succ,valL_cons,valL_cons,ih,pw_succ,e,Int.mul_add,←Int.mul_assoc]
   omega
theorem digs_set {l:List U32} (h:Digs l) (k:Nat) {s:Int} (hs:0≤s∧s<65536):Digs (l.set k ⟨s⟩):=fun d hd=>by
 rcases List.mem_or_eq_of_mem_set hd with h1 | h1
 · exact h d h1
 subst h1;exact hs
theorem mul_next {r lb:List U32} {i j:Nat} {c s x A:Int} (hk:i+j<r.length) (hv:valL r+pw (i+j)*c=A+pw i*(x*valL (lb.take j))) (hs:s=c+dg r (i+j)+x*dg lb j) :
 valL (r.set (i+j) ⟨s % 65536⟩)+pw (i+(j+1))*(s / 65536)=A+pw i*(x*valL (lb.take (j+1))):=by
 rw [valL_set r (i+j) ⟨s % 65536⟩ hk,val_step,←Nat.add_assoc,pw_succ]
 have h1:=carry (pw (i+j)) s
 have h2:pw (i+j)*s=pw (i+j)*c+pw (i+j)*dg r (i+j)+pw (i+j)*(x*dg lb j):=by rw [hs,Int.mul_add,Int.mul_add]
 have h3:pw i*(x*(valL (lb.take j)+pw j*dg lb j))=pw i*(x*valL (lb.take j))+pw (i+j)*(x*dg lb j):=by
  rw [Int.mul_add,Int.mul_add,pw_add]
  congr 1
  rw [Int.mul_assoc,←Int.mul_assoc x,Int.mul_comm x (pw j),Int.mul_assoc]
 have h4:pw (i+j)*(s % 65536 - dg r (i+j))=pw (i+j)*(s % 65536) - pw (i+j)*dg r (i+j):=Int.mul_sub _ _ _
 show valL r+pw (i+j)*(s % 65536 - dg r (i+j))+65536*pw (i+j)*(s / 65536)=_
 rw [h3,h4]
 omega
theorem mul_end {la lb:List U32} {i j:Nat} {v:Int} (hj:lb.length≤j) (h:v=valL (la.take i)*valL lb+pw i*(dg la i*valL (lb.take j))):v=valL (la.take (i+1))*valL lb:=by
 rw [h,take_all hj,val_step,Int.add_mul,Int.mul_assoc]
theorem mul_lt {a b c d:Int} (ha:0≤a) (hb:0≤b) (h1:a<c) (h2:b<d):a*b<c*d:=by
 have e1:a*b≤a*d:=Int.mul_le_mul_of_nonneg_left (Int.le_of_lt h2) ha
 have e2:a*d<c*d:=Int.mul_lt_mul_of_pos_right h1 (by omega)
 omega
theorem mul_bound {la lb r:List U32} {i j:Nat} {c:Int} (da:Digs la) (db:Digs lb) (hi:i<la.length) (hj:lb.length≤j) (hdr:Digs r) (hc:0<c) (hv:valL r+pw (i+j)*c=valL (la.take i)*valL lb+pw i*(dg la i*valL (lb.take j))):j≤lb.length:=by
 have h1:=mul_end hj hv
 have h2:=valL_lt (da.take (i+1))
 rw [List.length_take,Nat.min_eq_left (by omega)] at h2
 have h3:=mul_lt (valL_nonneg (da.take (i+1))) (valL_nonneg db) h2 (valL_lt db)
 rw [←pw_add] at h3
 have h4:=valL_nonneg hdr
 have h5:=Int.mul_le_mul_of_nonneg_left (show (1:Int)≤c by omega) (Int.le_of_lt (pw_pos (i+j)))
 have h6:pw (i+j)<pw (i+1+lb.length):=by omega
 have:=pw_lt_iff h6
 omega
theorem mul_small16 {x y:Int} (hx:0≤x∧x<65536) (hy:0≤y∧y<65536):0≤x*y∧x*y≤4294836225:=by
 refine ⟨Int.mul_nonneg hx.1 hy.1,?_⟩
 have h1:x*y≤65535*y:=Int.mul_le_mul_of_nonneg_right (by omega) hy.1
 omega
attribute [local irreducible] valL pw cmpZ
theorem c165 (G:Imm) (n1 n2:Bool) (a b:Option Addr) (ca cb:Nat) (la lb:List U32) (x y:Int) (ha:Arr G a la) (hb:Arr G b lb) (hx:IsInt n1 la x) (hy:IsInt n2 lb y) (h1:la.length≤536870912) (h2:lb.length≤536870912) :
 Does Tryz.prog 165 [.agg #[.bool n1,.slice a la.length ca],.agg #[.bool n2,.slice b lb.length cb]] G [] (fun v G' Ho=>∃ r:IV,v=.agg #[.bool r.neg,.slice r.a r.n r.c]∧Num G' r (x*y)∧Ho=[]):=by
 have da:=hx.digs
 have db:=hy.digs
 refine Does.enter Tryz.func165 rfl Tryz.ntmps165 rfl (fun w=>?_)
 refine Wc.gl 2 [] ?_
 refine Wl.box 0 rfl rfl rfl (fun b1=>?_)
 refine Wl.box 1 rfl rfl rfl (fun b2=>?_)
 refine Wl.alloc 2 rfl T.zero190 (fun b3=>?_)
 refine Wl.gl 12 [0,1] ?_
 refine Wl.make (α:=U32) 3 rfl T.sl123 T.el215 rfl rfl (by omega) (by omega) (fun b4=>?_)
 refine Wl.gc 10 [] ?_
 obtain ⟨N,hN⟩:∃ N,N=la.length+lb.length+1:=⟨_,rfl⟩
 have hM:((la.length:Int)+(lb.length:Int)+1).toNat=N:=by omega
 rw [hM]
 have hown:∀ r:List U32,r.length=N→OwnA (some ⟨b4,0,none⟩) N r []:=fun r hr=>.inr ⟨b4,rfl,by rw [hr];rfl,by omega,by simp only [maxLen];omega⟩
 refine Wc.re 5 rfl (show _=Value.slice (some ⟨b4,0,none⟩) (List.replicate N (default:U32)).length N by rw [List.length_replicate]) ?_
 refine Wc.loop (ι:=Nat×List U32) (fun (i,r)=>([(6,.int .i64 (i:Int)),(5,.slice (some ⟨b4,0,none⟩) r.length N),(4,.pointer (some (Addr.mk b3 0 none))),(3,.pointer (some ⟨b2,0,none⟩)),(2,.pointer (some ⟨b1,0,none⟩))],[(3,some b4,Row 215 r []),(2,some b3,.cells #[.bool Bool.false,.slice none 0 0] 190),(1,some b2,.cells #[.bool n2,.slice b (List.length lb) cb] 190),(0,some b1,.cells #[.bool n1,.slice a (List.length la) ca] 190)])) (fun (i,r)=>i≤la.length∧r.length=N∧Digs r∧valL r=valL (la.take i)*valL lb) (fun (i,r)=>la.length - i) ((0,List.replicate N (default:U32))) (⟨Nat.zero_le _,List.length_replicate,Digs.zeros N,by rw [List.take_zero,valL_nil,Int.zero_mul];exact valL_replicate N⟩) ⟨rfl,rfl,rfl,rfl,rfl,trivial⟩ ⟨rfl,rfl,rfl,rfl,trivial⟩ (fun ⟨i,r⟩=>fun hk=>?_)
 obtain ⟨hi,hrN,hdr,hv⟩:=hk
 rcases Nat.lt_or_ge i la.length with hia | hia
 · have hxi:0≤(la[((i:Nat):Int).toNat]?.getD default).v∧(la[((i:Nat):Int).toNat]?.getD default).v<65536:=dg_lt da hia
   refine Wc.gc 26 [0,1] ?_
   refine Wc.loop (ι:=Nat×Int×List U32) (fun (j,c,s)=>([(8,.int .i64 (j:Int)),(7,.int .u64 c),(5,.slice (some ⟨b4,0,none⟩) s.length N),(2,.pointer (some ⟨b1,0,none⟩)),(6,.int .i64 (↑i:Int)),(4,.pointer (some (Addr.mk b3 0 none))),(3,.pointer (some ⟨b2,0,none⟩))],[(3,some b4,Row 215 s []),(2,some b3,.cells #[.bool Bool.false,.slice none 0 0] 190),(1,some b2,.cells #[.bool n2,.slice b (List.length lb) cb] 190),(0,some b1,.cells #[.bool n1,.slice a (List.length la) ca] 190)])) (fun (j,c,s)=>0≤c∧c≤65535∧s.length=N∧Digs s∧valL s+pw (i+j)*c=valL (la.take i)*valL lb+pw i*(dg la i*valL (lb.take j))∧j≤lb.length+1) (fun (j,c,s)=>lb.length+1 - j) ((0,0,r)) (⟨by decide,by decide,hrN,hdr,by rw [Int.mul_zero,List.take_zero,valL_nil,Int.mul_zero,Int.mul_zero,Int.add_zero,Int.add_zero];exact hv,Nat.zero_le _⟩) ⟨rfl,rfl,rfl,rfl,rfl,rfl,rfl,trivial⟩ ⟨rfl,rfl,rfl,rfl,trivial⟩ (fun ⟨j,c,s⟩=>fun hk=>?_)
   obtain ⟨hc0,hc1,hsN,hds,hvs,hjl⟩:=hk
   have hos:=hown s hsN
   have hbnd:lb.length≤j→0<c→j≤lb.length:=fun h1 h2=>mul_bound da db hia h1 hds h2 hvs
   have ekk:((i:Int)+(j:Int)).toNat=i+j:=by omega
   rcases Nat.lt_or_ge j lb.length with hjb | hjb
   · have hyj:0≤(lb[((j:Nat):Int).toNat]?.getD default).v∧(lb[((j:Nat):Int).toNat]?.getD default).v<65536:=dg_lt db hjb
     have hxy:=mul_small16 hxi hyj
     have hsk:0≤(s[((i:Int)+(j:Int)).toNat]?.getD default).v∧(s[((i:Int)+(j:Int)).toNat]?.getD default).v<65536:=hds.at (by omega)
     refine Wc.gl 9 [1] ?_
     refine Wl.yes 30 rfl (by first | assumption | omega) ?_
     refine Wl.gl 17 [1] ?_
     refine Wl.q rfl (Qy.indexAddrO (α:=U32) T.sl123 rfl rfl (by assumption) (by omega)) ?_
     refine Wl.q rfl (Qy.loadO 3 0 T.one215 rfl rfl (by assumption) (by omega) rfl rfl) ?_
     refine Wl.q rfl (Qy.conv64 rfl T.u214 rfl (by omega)) ?_
     refine Wl.q rfl (Qy.uadd64 rfl rfl (by omega)) ?_
     refine Wl.gc 14 [1,1] ?_
     refine Wc.draw [0,1,2,3] [] T.mixed rfl ?_
     refine Gm.c 0 [] [] ?_
     refine Gm.c 1 [] [] ?_
     refine Gm.c 2 [0] [0] ?_
     refine Gm.c 3 [] [] ?_
     refine Gm.u 4 [] rfl (Qy.at (α:=U32) T.sl123 rfl rfl (by assumption) (by omega)) ?_
     refine Gm.u 5 [0] rfl (Qy.loadG T.one215 rfl (Arr.cell (by assumption) (by omega) 0 rfl rfl)) ?_
     refine Gm.u 6 [] rfl (Qy.conv64 rfl T.u214 rfl (by omega)) ?_
     refine Gm.c 7 [] [] ?_
     refine Gm.c 8 [1] [1] ?_
     refine Gm.c 9 [] [] ?_
     refine Gm.u 10 [] rfl (Qy.at (α:=U32) T.sl123 rfl rfl (by assumption) (by omega)) ?_
     refine Gm.u 11 [0] rfl (Qy.loadG T.one215 rfl (Arr.cell (by assumption) (by omega) 0 rfl rfl)) ?_
     refine Gm.u 12 [] rfl (Qy.conv64 rfl T.u214 rfl (by omega)) ?_
     refine Gm.u 13 [] rfl (Qy.umul64 rfl rfl (by first | assumption | omega)) ?_
     refine Gm.u 14 [] rfl (Qy.uadd64 rfl rfl (by omega)) ?_
     refine Gm.c 15 [] [] ?_
     refine Gm.fin ?_
     refine Ar.gl 8 [] ?_
     refine Wl.q rfl (Qy.urem rfl rfl (by omega)) ?_
     refine Wl.q rfl (Qy.conv32 rfl T.u215 rfl (by omega)) ?_
     refine Wl.q rfl (Qy.indexAddrO (α:=U32) T.sl123 rfl rfl (by assumption) (by omega)) ?_
     refine Wl.setO (z:=_) 3 T.size215 rfl rfl rfl (by assumption) (by omega) rfl (fun ho1=>?_)
     refine Wl.gl 4 [] ?_
     refine Wl.q rfl (Qy.uquo64 rfl rfl (by omega)) ?_
     refine Wl.ga 9 [] ?_
     rw [ekk] at ⊢ hsk
     refine Ar.re 5 rfl (show _=Value.slice (some ⟨b4,0,none⟩) (s.set (i+j) (⟨(c+(s[i+j]?.getD default).v+(la[((i:Nat):Int).toNat]?.getD default).v*(lb[((j:Nat):Int).toNat]?.getD default).v) % 65536⟩:U32)).length N by rw [List.length_set]) ?_
     refine Ar.again ((j+1,(c+(s[i+j]?.getD default).v+(la[((i:Nat):Int).toNat]?.getD default).v*(lb[((j:Nat):Int).toNat]?.getD default).v) / 65536,s.set (i+j) (⟨(c+(s[i+j]?.getD default).v+(la[((i:Nat):Int).toNat]?.getD default).v*(lb[((j:Nat):Int).toNat]?.getD default).v) % 65536⟩:U32))) ?_ ?_ rfl ⟨rfl,rfl,rfl,rfl,rfl,rfl,rfl,trivial⟩ ⟨rfl,rfl,rfl,rfl,trivial⟩
     · exact ⟨by omega,by omega,by rw [List.length_set];exact hsN,digs_set hds _ (by omega),mul_next (by omega) hvs (by simp only [dg,Int.toNat_natCast]),by omega⟩
     show lb.length+1 - (j+1)<lb.length+1 - j
     omega
   by_cases hcy:0<c
   · have hjle:=hbnd hjb hcy
     have hsk:0≤(s[((i:Int)+(j:Int)).toNat]?.getD default).v∧(s[((i:Int)+(j:Int)).toNat]?.getD default).v<65536:=hds.at (by omega)
     refine Wc.gl 9 [1] ?_
     refine Wl.no 30 rfl (by first | assumption | omega) ?_
     refine Wl.gl 19 [1] ?_
     refine Wl.q rfl (Qy.indexAddrO (α:=U32) T.sl123 rfl rfl (by assumption) (by omega)) ?_
     refine Wl.q rfl (Qy.loadO 3 0 T.one215 rfl rfl (by assumption) (by omega) rfl rfl) ?_
     refine Wl.q rfl (Qy.conv64 rfl T.u214 rfl (by omega)) ?_
     refine Wl.q rfl (Qy.uadd64 rfl rfl (by omega)) ?_
     refine Wl.gl 23 [1,0] ?_
     refine Wl.q rfl (Qy.urem rfl rfl (by omega)) ?_
     refine Wl.q rfl (Qy.conv32 rfl T.u215 rfl (by omega)) ?_
     refine Wl.q rfl (Qy.indexAddrO (α:=U32) T.sl123 rfl rfl (by assumption) (by omega)) ?_
     refine Wl.setO (z:=_) 3 T.size215 rfl rfl rfl (by assumption) (by omega) rfl (fun ho1=>?_)
     refine Wl.gl 4 [] ?_
     refine Wl.q rfl (Qy.uquo64 rfl rfl (by omega)) ?_
     refine Wl.ga 9 [] ?_
     rw [ekk] at ⊢ hsk
     refine Ar.re 5 rfl (show _=Value.slice (some ⟨b4,0,none⟩) (s.set (i+j) (⟨(c+(s[i+j]?.getD default).v) % 65536⟩:U32)).length N by rw [List.length_set]) ?_
     refine Ar.again ((j+1,(c+(s[i+j]?.getD default).v) / 65536,s.set (i+j) (⟨(c+(s[i+j]?.getD default).v) % 65536⟩:U32))) ?_ ?_ rfl ⟨rfl,rfl,rfl,rfl,rfl,rfl,rfl,trivial⟩ ⟨rfl,rfl,rfl,rfl,trivial⟩
     · exact ⟨by omega,by omega,by rw [List.length_set];exact hsN,digs_set hds _ (by omega),mul_next (by omega) hvs (by rw [dg_end hjb,Int.mul_zero,Int.add_zero];simp only [dg,Int.toNat_natCast]),by omega⟩
     show lb.length+1 - (j+1)<lb.length+1 - j
     omega
   have hc:c=0:=by omega
   subst hc
   rw [Int.mul_zero,Int.add_zero] at hvs
   refine Wc.gl 9 [1] ?_
   refine Wl.no 30 rfl (by first | assumption | omega) ?_
   refine Wl.ga 19 [0] ?_
   refine Ar.again ((i+1,s)) ?_ ?_ rfl ⟨rfl,rfl,rfl,rfl,rfl,trivial⟩ ⟨rfl,rfl,rfl,rfl,trivial⟩
   · exact ⟨by omega,hsN,hds,mul_end hjb hvs⟩
   show la.length - (i+1)<la.length - i
   omega
 have hor:=hown r hrN
 rw [take_all hia] at hv
 refine Wc.gl 22 [0,0,0,1] ?_
 refine Wl.q rfl (Qy.neqB T.u4 rfl rfl) ?_
 refine Wl.q rfl (Qy.move rfl) ?_
 have hcap:=hor.le
 refine Wl.freezeRow 3 rfl hor (fun G9 hle9 hA=>?_)
 refine Wl.k 4 rfl (c168 _ _ _ _ _ (by assumption) (by omega) (by assumption)) (fun v1 G1 Ho1 hle1 hp=>?_)
 obtain ⟨tn1,rfl,htr1,rfl,rfl⟩:=hp
 refine Wl.ga 4 [2] ?_
 refine Ar.out1 (.inr rfl) (Ho:=Hp.only _ []) rfl (.agg 2 rfl rfl T.agg190) (Hp.sub_only _ _) ?_
 refine ⟨⟨decide (n1≠n2) && decide (0<tn1),subA (some ⟨b4,0,none⟩) N 0 1,tn1,N⟩,rfl,?_,rfl⟩
 have e:=htr1.num hdr hA hcap (decide (n1≠n2))
 have e2:(if decide (n1≠n2)=true then -valL r else valL r)=x*y:=by
  rw [hv,hx.val,hy.val]
  cases n1 <;> cases n2 <;> simp [Int.neg_mul,Int.mul_neg]
 rw [e2] at e;exact e
theorem num_mul (G:Imm) (x y:IV) (zx zy:Int) (hx:Num G x zx) (hy:Num G y zy) (h1:x.n≤536870912) (h2:y.n≤536870912) :
 Does Tryz.prog 165 [.agg (Cells.enc x).toArray,.agg (Cells.enc y).toArray] G [] (fun v G' Ho=>∃ r:IV,v=.agg (Cells.enc r).toArray∧Num G' r (zx*zy)∧Ho=[]):=by
 obtain ⟨n1,a,k1,ca⟩:=x
 obtain ⟨n2,b,k2,cb⟩:=y
 obtain ⟨la,hl,hlc,hA,hI⟩:=hx
 obtain ⟨lb,hl',hlc',hA',hI'⟩:=hy
 simp only at hl hlc hA hI hl' hlc' hA' hI' h1 h2
 subst hl hl'
 exact c165 G n1 n2 a b ca cb la lb zx zy hA hA' hI hI' h1 h2
end Go.Proofs.YtfdcckcadfhpeaaGreatDoor
namespace Go.Proofs.YtfdcckcadfhpeaaGreatDoor
open Go Go.Sl
theorem c161 (G:Imm) (op:Int):Does Tryz.prog 161 [.int .i64 op] G [] (fun v G' Ho=>v=.bool (decide (op=3∨op=4))∧G'=G∧Ho=[]):=by
 refine Does.enter Tryz.func161 rfl Tryz.ntmps161 rfl (fun w=>?_)
 refine Wc.gl 10 [] ?_
 apply Wl.joinOr 3 5 8 rfl
 intro hg1
 refine Wl.ll0 5 [] ?_
 exact Wl.back 3 0 rfl rfl rfl rfl rfl
 intro hg1
 refine Wl.ll0 3 [] ?_
 exact Wl.back 3 0 rfl rfl rfl rfl rfl
 refine Wl.ga 4 [] ?_
 refine Ar.e1 ?_
 exact ⟨by simp,rfl,rfl⟩
def constOk (op c:Int):Bool:=
 if op=5∨op=6 then decide (c≠0∧-512≤c∧c≤512) else if op=7∨op=8 then decide (1≤c∧c≤64) else decide (c=0)
theorem c162 (G:Imm) (i:Sl.Instr):Does Tryz.prog 162 [.agg (Cells.enc i).toArray] G [] (fun v G' Ho=>v=.bool (decide (constOk i.op i.c=true))∧G'=G∧Ho=[]):=by
 refine Does.enter Tryz.func162 rfl Tryz.ntmps162 rfl (fun w=>?_)
 refine Wc.gl 2 [] ?_
 refine Wl.box 0 rfl rfl rfl (fun b1=>?_)
 refine Wl.gc 18 [0] ?_
 refine Wc.cond rfl (fun hc1=>?_) (fun hc1=>?_)
 refine Wc.gl 9 [1,0] ?_
 apply Wl.joinAnd 4 11 15 rfl
 intro hg1
 refine Wl.ll0 7 [0] ?_
 exact Wl.back 4 0 rfl rfl rfl rfl rfl
 intro hg1
 refine Wl.ll0 4 [] ?_
 exact Wl.back 4 0 rfl rfl rfl rfl rfl
 refine Wl.q rfl (Qy.move rfl) ?_
 apply Wl.joinAnd 4 16 20 rfl
 intro hg1
 refine Wl.ll0 7 [0] ?_
 exact Wl.back 4 0 rfl rfl rfl rfl rfl
 intro hg1
 refine Wl.ll0 4 [] ?_
 exact Wl.back 4 0 rfl rfl rfl rfl rfl
 refine Wl.ga 6 [] ?_
 refine Ar.e1 ?_
 rotate_left
 refine Wc.gc 5 [] ?_
 refine Wc.cond rfl (fun hc2=>?_) (fun hc2=>?_)
 refine Wc.gl 6 [0] ?_
 apply Wl.joinAnd 4 11 15 rfl
 intro hg1
 refine Wl.ll0 7 [0] ?_
 exact Wl.back 4 0 rfl rfl rfl rfl rfl
 intro hg1
 refine Wl.ll0 4 [] ?_
 exact Wl.back 4 0 rfl rfl rfl rfl rfl
 refine Wl.q rfl (Qy.move rfl) ?_
 apply Wl.joinAnd 4 16 20 rfl
 intro hg1
 refine Wl.ll0 7 [0] ?_
 exact Wl.back 4 0 rfl rfl rfl rfl rfl
 intro hg1
 refine Wl.ll0 4 [] ?_
 exact Wl.back 4 0 rfl rfl rfl rfl rfl
 refine Wl.ga 6 [] ?_
 refine Ar.e1 ?_
 rotate_left
 refine Wc.gc 7 [] ?_
 refine Wc.cond rfl (fun hc3=>?_) (fun hc3=>?_)
 refine Wc.gl 9 [1,0] ?_
 apply Wl.joinAnd 4 27 31 rfl
 intro hg1
 refine Wl.ll0 7 [0] ?_
 exact Wl.back 4 0 rfl rfl rfl rfl rfl
 intro hg1
 refine Wl.ll0 4 [] ?_
 exact Wl.back 4 0 rfl rfl rfl rfl rfl
 refine Wl.ga 6 [] ?_
 refine Ar.e1 ?_
 rotate_left
 refine Wc.gc 5 [] ?_
 refine Wc.cond rfl (fun hc4=>?_) (fun hc4=>?_)
 refine Wc.gl 6 [0] ?_
 apply Wl.joinAnd 4 27 31 rfl
 intro hg1
 refine Wl.ll0 7 [0] ?_
 exact Wl.back 4 0 rfl rfl rfl rfl rfl
 intro hg1
 refine Wl.ll0 4 [] ?_
 exact Wl.back 4 0 rfl rfl rfl rfl rfl
 refine Wl.ga 6 [] ?_
 refine Ar.e1 ?_
 rotate_left
 refine Wc.ga 12 [0] ?_
 refine Ar.e1 ?_
 rotate_left
 all_goals refine ⟨?_,rfl,rfl⟩
 all_goals simp [constOk, *]
 all_goals first | (split <;> first | rfl | omega) | omega | (simp only [Bool.and_assoc];rfl) | (simp only [Bool.and_assoc]) | skip
def asks (i:Sl.Instr):List Int:=if i.op=3∨i.op=4 then [i.a,i.b] else if 1≤i.op∧i.op≤8 then [i.a] else []
theorem c83 (G:Imm) (i:Sl.Instr):Does Tryz.prog 83 [.agg (Cells.enc i).toArray] G [] (fun v G' Ho=>∃ a c junk,v=.slice a (asks i).length c∧OwnA a c (asks i) junk∧Ho=[(1,a.map (·.block),Row 3 (asks i) junk)]∧G'=G):=by
 refine Does.enter Tryz.func83 rfl Tryz.ntmps83 rfl (fun w=>?_)
 refine Wc.gl 2 [] ?_
 refine Wl.box 0 rfl rfl rfl (fun b1=>?_)
 refine Wl.gc 18 [0] ?_
 refine Wc.cond rfl (fun hc1=>?_) (fun hc1=>?_)
 refine Wc.gl 9 [1,0,0] ?_
 refine Wl.lit (α:=Int) 1 [(Go.Sl.Instr.a i),(Go.Sl.Instr.b i)] rfl T.sl24 T.el3 rfl rfl rfl rfl rfl (fun b2=>?_)
 refine Wl.ga 6 [] ?_
 rotate_left
 refine Wc.gc 5 [] ?_
 refine Wc.cond rfl (fun hc2=>?_) (fun hc2=>?_)
 refine Wc.gl 6 [0,0] ?_
 refine Wl.lit (α:=Int) 1 [(Go.Sl.Instr.a i),(Go.Sl.Instr.b i)] rfl T.sl24 T.el3 rfl rfl rfl rfl rfl (fun b2=>?_)
 refine Wl.ga 6 [] ?_
 rotate_left
 refine Wc.gc 7 [] ?_
 refine Wc.cond rfl (fun hc3=>?_) (fun hc3=>?_)
 refine Wc.gl 7 [1,0] ?_
 refine Wl.lit (α:=Int) 1 [(Go.Sl.Instr.a i)] rfl T.sl24 T.el3 rfl rfl rfl rfl rfl (fun b2=>?_)
 refine Wl.ga 6 [] ?_
 rotate_left
 refine Wc.gc 6 [] ?_
 refine Wc.cond rfl (fun hc4=>?_) (fun hc4=>?_)
 refine Wc.gl 7 [1,0] ?_
 refine Wl.lit (α:=Int) 1 [(Go.Sl.Instr.a i)] rfl T.sl24 T.el3 rfl rfl rfl rfl rfl (fun b2=>?_)
 refine Wl.ga 6 [] ?_
 rotate_left
 refine Wc.gc 6 [] ?_
 refine Wc.cond rfl (fun hc5=>?_) (fun hc5=>?_)
 refine Wc.gl 7 [1,0] ?_
 refine Wl.lit (α:=Int) 1 [(Go.Sl.Instr.a i)] rfl T.sl24 T.el3 rfl rfl rfl rfl rfl (fun b2=>?_)
 refine Wl.ga 6 [] ?_
 rotate_left
 refine Wc.gc 6 [] ?_
 refine Wc.cond rfl (fun hc6=>?_) (fun hc6=>?_)
 refine Wc.gl 7 [1,0] ?_
 refine Wl.lit (α:=Int) 1 [(Go.Sl.Instr.a i)] rfl T.sl24 T.el3 rfl rfl rfl rfl rfl (fun b2=>?_)
 refine Wl.ga 6 [] ?_
 rotate_left
 refine Wc.gc 6 [] ?_
 refine Wc.cond rfl (fun hc7=>?_) (fun hc7=>?_)
 refine Wc.gl 7 [1,0] ?_
 refine Wl.lit (α:=Int) 1 [(Go.Sl.Instr.a i)] rfl T.sl24 T.el3 rfl rfl rfl rfl rfl (fun b2=>?_)
 refine Wl.ga 6 [] ?_
 rotate_left
 refine Wc.gc 5 [] ?_
 refine Wc.cond rfl (fun hc8=>?_) (fun hc8=>?_)
 refine Wc.gl 4 [0] ?_
 refine Wl.lit (α:=Int) 1 [(Go.Sl.Instr.a i)] rfl T.sl24 T.el3 rfl rfl rfl rfl rfl (fun b2=>?_)
 refine Wl.ga 6 [] ?_
 rotate_left
 refine Wc.ga 9 [] ?_
 rotate_left
 rotate_right
 · have h:asks i=[]:=by unfold asks;rw [if_neg (by omega),if_neg (by omega)]
   refine Ar.nilRow 1 (Row 3 ([]:List Int) []) ?_
   refine Ar.out1 (.inr rfl) (Ho:=Hp.only _ [1]) rfl (.tmp rfl) (Hp.sub_only _ _) ?_
   rw [h];exact ⟨_,_,_,rfl,OwnA.nil,rfl,rfl⟩
 all_goals first | refine Ar.out1 (.inr rfl) (Ho:=Hp.only _ [1]) rfl (.tmp rfl) (Hp.sub_only _ _) ?_
 all_goals first
  | (have h:asks i=[i.a,i.b]:=by unfold asks;rw [if_pos (by omega)]
     rw [h];exact ⟨_,_,_,rfl,OwnA.made (by simp [maxLen]),rfl,rfl⟩)
  | (have h:asks i=[i.a]:=by unfold asks;rw [if_neg (by omega),if_pos (by omega)]
     rw [h];exact ⟨_,_,_,rfl,OwnA.made (by simp [maxLen]),rfl,rfl⟩)
  | skip
def mayOk (i:Sl.Instr) (regs:Int):Bool:=
 decide (1≤i.op∧i.op≤8∧0≤i.to∧i.to<regs∧(i.op=3∨i.op=4∨i.b=0)) && constOk i.op i.c && (asks i).all fun r=>decide (0≤r∧r<regs)
theorem all_step {α:Type} [Inhabited α] (p:α→Bool) {l:List α} {k:Nat} (h:k<l.length):(l.take (k+1)).all p=((l.take k).all p && p (l[((k:Nat):Int).toNat]?.getD default)):=by
 have:l.take (k+1)=l.take k++[l[((k:Nat):Int).toNat]?.getD default]:=by
  rw [List.take_add_one,Int.toNat_natCast,List.getElem?_eq_getElem h];rfl
 rw [this,List.all_append];simp
theorem c112 (G:Imm) (i:Sl.Instr) (regs:Int):Does Tryz.prog 112 [.agg (Cells.enc i).toArray,.int .i64 regs] G [] (fun v G' Ho=>v=.bool (decide (mayOk i regs=true))∧G'=G∧Ho=[]):=by
 refine Does.enter Tryz.func112 rfl Tryz.ntmps112 rfl (fun w=>?_)
 refine Wc.gl 2 [] ?_
 refine Wl.box 0 rfl rfl rfl (fun b1=>?_)
 refine Wl.gl 10 [0] ?_
 apply Wl.joinOr 4 10 14 rfl
 intro hg1
 refine Wl.ll0 7 [0] ?_
 exact Wl.back 4 0 rfl rfl rfl rfl rfl
 intro hg1
 refine Wl.ll0 4 [] ?_
 exact Wl.back 4 0 rfl rfl rfl rfl rfl
 refine Wl.q rfl (Qy.move rfl) ?_
 apply Wl.joinOr 4 15 19 rfl
 intro hg1
 refine Wl.ll0 7 [0] ?_
 exact Wl.back 4 0 rfl rfl rfl rfl rfl
 intro hg1
 refine Wl.ll0 4 [] ?_
 exact Wl.back 4 0 rfl rfl rfl rfl rfl
 refine Wl.q rfl (Qy.move rfl) ?_
 apply Wl.joinOr 5 20 25 rfl
 intro hg1
 refine Wl.ll0 9 [0] ?_
 exact Wl.back 5 0 rfl rfl rfl rfl rfl
 intro hg1
 refine Wl.ll0 5 [] ?_
 exact Wl.back 5 0 rfl rfl rfl rfl rfl
 refine Wl.q rfl (Qy.move rfl) ?_
 apply Wl.joinOr 10 26 36 rfl
 intro hg1
 refine Wl.ll0 5 [0] ?_
 refine Wl.k0 rfl (c161 _ _) ?_
 refine Wl.want rfl rfl ?_
 refine Wl.q rfl (Qy.notD rfl) ?_
 refine Wl.ll0 2 [] ?_
 apply Wl.joinAnd 4 31 35 rfl
 intro hg1
 refine Wl.ll0 8 [0] ?_
 exact Wl.back 4 0 rfl rfl rfl rfl rfl
 intro hg1
 refine Wl.ll0 5 [] ?_
 exact Wl.back 4 0 rfl rfl rfl rfl rfl
 refine Wl.q rfl (Qy.pick rfl rfl) ?_
 exact Wl.back 7 0 rfl rfl rfl rfl rfl
 intro hg1
 refine Wl.ll0 5 [] ?_
 refine Wl.passU rfl rfl rfl ?_
 refine Wl.passU rfl rfl rfl ?_
 refine Wl.passU rfl rfl rfl ?_
 refine Wl.ll0 2 [] ?_
 exact Wl.back 10 0 rfl rfl rfl rfl rfl
 refine Wl.q rfl (Qy.move rfl) ?_
 apply Wl.joinOr 4 37 41 rfl
 intro hg1
 refine Wl.ll0 3 [0] ?_
 refine Wl.k0 rfl (c162 _ _) ?_
 refine Wl.want rfl rfl ?_
 refine Wl.q rfl (Qy.notD rfl) ?_
 refine Wl.q rfl (Qy.pick rfl rfl) ?_
 exact Wl.back 4 0 rfl rfl rfl rfl rfl
 intro hg1
 refine Wl.ll0 4 [] ?_
 exact Wl.back 4 0 rfl rfl rfl rfl rfl
 refine Wl.gc 2 [] ?_
 refine Wc.cond rfl (fun hc1=>?_) (fun hc1=>?_)
 refine Wc.ga 7 [] ?_
 refine Ar.e1 ?_
 rotate_left
 refine Wc.gl 6 [0] ?_
 refine Wl.k 1 rfl (c83 _ _) (fun v1 G1 Ho1 hle1 hp=>?_)
 obtain ⟨ad1,cd1,junk1,rfl,hoa1,rfl,rfl⟩:=hp
 refine Wl.gc 5 [] ?_
 rotate_left
 · refine ⟨?_,rfl,rfl⟩
   have:mayOk i regs=false:=by
    unfold mayOk
    rcases hc1 with ((((h | h) | h) | h) | h) | h
    all_goals first | (rw [decide_eq_false (by omega)];rfl) | simp [h]
   simp [this]
 have hasks:(asks i).length≤2:=by unfold asks;split <;> (try split) <;> simp
 refine Wc.loop (ι:=Nat) (fun k=>([(45,.int .i64 (k:Int)),(44,.int .i64 (↑(List.length (asks i)):Int)),(43,.slice ad1 (List.length (asks i)) cd1),(1,.int .i64 regs)],[(2,Option.map (fun x=>Go.Addr.block x) ad1,Row (α:=Int) 3 (asks i) (junk1)),(0,some b1,.cells (List.toArray (Cells.enc i)) 91)])) (fun k=>k≤(asks i).length∧((asks i).take k).all (fun r=>decide (0≤r∧r<regs))=true) (fun k=>(asks i).length - k) (0) (⟨Nat.zero_le _,rfl⟩) ⟨rfl,rfl,rfl,rfl,trivial⟩ ⟨rfl,rfl,trivial⟩ (fun k=>fun hk=>?_)
 obtain ⟨hk1,hk2⟩:=hk
 refine Wc.gc 6 [] ?_
 refine Wc.cond rfl (fun hc2=>?_) (fun hc2=>?_)
 refine Wc.gl 6 [] ?_
 refine Wl.q rfl (Qy.indexAddrO (α:=Int) T.sl24 rfl rfl (by assumption) (by omega)) ?_
 refine Wl.q rfl (Qy.loadO 2 0 T.one3 rfl rfl (by assumption) (by omega) rfl rfl) ?_
 refine Wl.gl 8 [] ?_
 apply Wl.joinOr 4 51 55 rfl
 intro hg1
 refine Wl.ll0 7 [] ?_
 exact Wl.back 4 0 rfl rfl rfl rfl rfl
 intro hg1
 refine Wl.ll0 4 [] ?_
 exact Wl.back 4 0 rfl rfl rfl rfl rfl
 refine Wl.gc 2 [] ?_
 refine Wc.cond rfl (fun hc3=>?_) (fun hc3=>?_)
 refine Wc.ga 11 [] ?_
 refine Ar.e1 ?_
 rotate_left
 refine Wc.ga 7 [] ?_
 rotate_left
 refine Wc.ga 11 [] ?_
 refine Ar.e1 ?_
 rotate_left
 · refine ⟨?_,rfl,rfl⟩
   have hl:k<(asks i).length:=by omega
   have hx:(asks i)[((k:Nat):Int).toNat]?.getD default∈asks i:=by rw [Int.toNat_natCast,List.getElem?_eq_getElem hl];simp
   have hf:((asks i).all fun r=>decide (0≤r∧r<regs))=false:=by
    rw [List.all_eq_false]
    exact ⟨_,hx,by simp only [decide_eq_true_eq];omega⟩
   have:mayOk i regs=false:=by unfold mayOk;rw [hf];simp
   simp [this]
 · refine Ar.again (k+1) ?_ ?_ rfl ⟨rfl,rfl,rfl,rfl,trivial⟩ ⟨rfl,rfl,trivial⟩
   · refine ⟨by omega,?_⟩
     rw [all_step _ (by omega),hk2]
     simp only [Bool.true_and,decide_eq_true_eq]
     omega
   omega
 refine ⟨?_,rfl,rfl⟩
 have hk:k=(asks i).length:=by omega
 subst hk
 rw [List.take_length] at hk2
 have:mayOk i regs=true:=by
  unfold mayOk
  rw [hk2]
  simp only [not_or] at hc1
  simp only [Bool.and_true,Bool.and_eq_true,decide_eq_true_eq]
  refine ⟨by omega,?_⟩
  have:=hc1.2
  simpa using this
 simp [this]
structure PV where
 ins:Int
 regs:Int
 code:List Sl.Instr
 outs:List Int
def headOk (p:PV):Bool:=decide (1≤p.ins∧p.ins≤p.regs∧p.regs≤128∧p.code.length≤16384∧1≤p.outs.length∧p.outs.length≤128) && p.outs.all fun r=>decide (0≤r∧r<p.regs)
def badAt (p:PV):Option Nat:=p.code.findIdx? fun i=>!mayOk i p.regs
def checkP (p:PV):Int×Bool:=if headOk p=false then (-1,true) else match badAt p with | some k=>(k,true) | none=>(0,false)
theorem find_bad {α:Type} [Inhabited α] {p:α→Bool} {l:List α} {k:Nat} (h:k<l.length) (h1:(l.take k).all p=true) (h2:¬p (l[((k:Nat):Int).toNat]?.getD default)=true):l.findIdx? (fun i=>!p i)=some k:=by
 rw [List.findIdx?_eq_some_iff_getElem]
 rw [Int.toNat_natCast,List.getElem?_eq_getElem h,Option.getD_some] at h2
 refine ⟨h,by simpa using h2,fun j hj=>?_⟩
 have hm:l[j]'(by omega)∈l.take k:=by rw [List.mem_take_iff_getElem];exact ⟨j,by omega,rfl⟩
 have:=List.all_eq_true.1 h1 _ hm
 simpa using this
theorem find_none {α:Type} {p:α→Bool} {l:List α} (h1:l.all p=true):l.findIdx? (fun i=>!p i)=none:=by
 rw [List.findIdx?_eq_none_iff]
 intro x hx
 simpa using List.all_eq_true.1 h1 x hx
theorem c56 (G:Imm) (p:PV) (ac ao:Option Addr) (cc co:Nat) (hc:Arr G ac p.code) (ho:Arr G ao p.outs) (h1:p.code.length≤1099511627776) (h2:p.outs.length≤1099511627776) :
 Does Tryz.prog 56 [.agg #[.int .i64 p.ins,.int .i64 p.regs,.slice ac p.code.length cc,.slice ao p.outs.length co]] G [] (fun v G' Ho=>v=.tuple #[.int .i64 (checkP p).1,.int .i64 (if (checkP p).2 then 80 else 0)]∧G'=G∧Ho=[]):=by
 refine Does.enter Tryz.func56 rfl Tryz.ntmps56 rfl (fun w=>?_)
 refine Wc.gl 2 [] ?_
 refine Wl.box 0 rfl rfl rfl (fun b1=>?_)
 refine Wl.gl 11 [0] ?_
 apply Wl.joinOr 6 11 17 rfl
 intro hg1
 refine Wl.ll0 11 [0,0] ?_
 exact Wl.back 6 0 rfl rfl rfl rfl rfl
 intro hg1
 refine Wl.ll0 6 [] ?_
 exact Wl.back 6 0 rfl rfl rfl rfl rfl
 refine Wl.q rfl (Qy.move rfl) ?_
 apply Wl.joinOr 4 18 22 rfl
 intro hg1
 refine Wl.ll0 7 [0] ?_
 exact Wl.back 4 0 rfl rfl rfl rfl rfl
 intro hg1
 refine Wl.ll0 4 [] ?_
 exact Wl.back 4 0 rfl rfl rfl rfl rfl
 refine Wl.q rfl (Qy.move rfl) ?_
 apply Wl.joinOr 5 23 28 rfl
 intro hg1
 refine Wl.ll0 9 [0] ?_
 exact Wl.back 5 0 rfl rfl rfl rfl rfl
 intro hg1
 refine Wl.ll0 5 [] ?_
 exact Wl.back 5 0 rfl rfl rfl rfl rfl
 refine Wl.q rfl (Qy.move rfl) ?_
 apply Wl.joinOr 5 29 34 rfl
 intro hg1
 refine Wl.ll0 9 [0] ?_
 exact Wl.back 5 0 rfl rfl rfl rfl rfl
 intro hg1
 refine Wl.ll0 5 [] ?_
 exact Wl.back 5 0 rfl rfl rfl rfl rfl
 refine Wl.q rfl (Qy.move rfl) ?_
 apply Wl.joinOr 5 35 40 rfl
 intro hg1
 refine Wl.ll0 9 [0] ?_
 exact Wl.back 5 0 rfl rfl rfl rfl rfl
 intro hg1
 refine Wl.ll0 5 [] ?_
 exact Wl.back 5 0 rfl rfl rfl rfl rfl
 refine Wl.gc 2 [] ?_
 refine Wc.cond rfl (fun hc1=>?_) (fun hc1=>?_)
 refine Wc.ga 8 [] ?_
 refine Ar.e2 ?_
 rotate_left
 refine Wc.gc 12 [0] ?_
 rotate_left
 · refine ⟨?_,rfl,rfl⟩
   have:headOk p=false:=by unfold headOk;rw [decide_eq_false (by omega)];rfl
   simp [checkP,this]
 refine Wc.loop (ι:=Nat) (fun k=>([(44,.int .i64 (k:Int)),(43,.int .i64 (↑(List.length (PV.outs p)):Int)),(42,.slice ao (List.length (PV.outs p)) co),(1,.pointer (some ⟨b1,0,none⟩))],[(0,some b1,.cells #[.int .i64 (PV.ins p),.int .i64 (PV.regs p),.slice ac (List.length (PV.code p)) cc,.slice ao (List.length (PV.outs p)) co] 26)])) (fun k=>k≤p.outs.length∧(p.outs.take k).all (fun r=>decide (0≤r∧r<p.regs))=true) (fun k=>p.outs.length - k) (0) (⟨Nat.zero_le _,rfl⟩) ⟨rfl,rfl,rfl,rfl,trivial⟩ ⟨rfl,trivial⟩ (fun k=>fun hk=>?_)
 obtain ⟨hk1,hk2⟩:=hk
 refine Wc.gc 6 [] ?_
 refine Wc.cond rfl (fun hc2=>?_) (fun hc2=>?_)
 refine Wc.gl 6 [] ?_
 refine Wl.q rfl (Qy.at (α:=Int) T.sl24 rfl rfl (by assumption) (by omega)) ?_
 refine Wl.q rfl (Qy.loadG T.one3 rfl (Arr.cell (by assumption) (by omega) 0 rfl rfl)) ?_
 refine Wl.gl 8 [] ?_
 apply Wl.joinOr 5 50 55 rfl
 intro hg1
 refine Wl.ll0 9 [0] ?_
 exact Wl.back 5 0 rfl rfl rfl rfl rfl
 intro hg1
 refine Wl.ll0 5 [] ?_
 exact Wl.back 5 0 rfl rfl rfl rfl rfl
 refine Wl.gc 2 [] ?_
 refine Wc.cond rfl (fun hc3=>?_) (fun hc3=>?_)
 refine Wc.ga 12 [] ?_
 refine Ar.e2 ?_
 rotate_left
 refine Wc.ga 7 [] ?_
 rotate_left
 refine Wc.gc 15 [0] ?_
 rotate_left
 · refine ⟨?_,rfl,rfl⟩
   have hl:k<p.outs.length:=by omega
   have hx:p.outs[((k:Nat):Int).toNat]?.getD default∈p.outs:=by rw [Int.toNat_natCast,List.getElem?_eq_getElem hl];simp
   have hf:(p.outs.all fun r=>decide (0≤r∧r<p.regs))=false:=by
    rw [List.all_eq_false]
    exact ⟨_,hx,by simp only [decide_eq_true_eq];omega⟩
   have:headOk p=false:=by unfold headOk;rw [hf,Bool.and_false]
   simp [checkP,this]
 · refine Ar.again (k+1) ?_ ?_ rfl ⟨rfl,rfl,rfl,rfl,trivial⟩ ⟨rfl,trivial⟩
   · refine ⟨by omega,?_⟩
     rw [all_step _ (by omega),hk2]
     simp only [Bool.true_and,decide_eq_true_eq]
     omega
   omega
 have hk:k=p.outs.length:=by omega
 subst hk
 rw [List.take_length] at hk2
 have hh:headOk p=true:=by
  unfold headOk
  rw [hk2,Bool.and_true,decide_eq_true_eq]
  omega
 clear hk1 hk2 hc2
 refine Wc.loop (ι:=Nat) (fun k=>([(60,.int .i64 (k:Int)),(59,.int .i64 (↑(List.length (PV.code p)):Int)),(58,.slice ac (List.length (PV.code p)) cc),(1,.pointer (some ⟨b1,0,none⟩))],[(0,some b1,.cells #[.int .i64 (PV.ins p),.int .i64 (PV.regs p),.slice ac (List.length (PV.code p)) cc,.slice ao (List.length (PV.outs p)) co] 26)])) (fun k=>k≤p.code.length∧(p.code.take k).all (fun i=>mayOk i p.regs)=true) (fun k=>p.code.length - k) (0) (⟨Nat.zero_le _,rfl⟩) ⟨rfl,rfl,rfl,rfl,trivial⟩ ⟨rfl,trivial⟩ (fun k=>fun hk=>?_)
 obtain ⟨hk1,hk2⟩:=hk
 refine Wc.gc 6 [] ?_
 refine Wc.cond rfl (fun hc2=>?_) (fun hc2=>?_)
 refine Wc.gl 7 [] ?_
 refine Wl.q rfl (Qy.at (α:=Instr) T.sl23 rfl rfl (by assumption) (by omega)) ?_
 refine Wl.q rfl (Qy.loadsG T.agg91 rfl (Arr.elem (by assumption) (by omega)) rfl) ?_
 refine Wl.alloc 1 rfl T.zero91 (fun b2=>?_)
 refine Wl.gl 9 [1,1,0] ?_
 refine Wl.k0 rfl (c112 _ _ _) ?_
 refine Wl.q rfl (Qy.notD rfl) ?_
 refine Wl.gc 2 [] ?_
 refine Wc.cond rfl (fun hc3=>?_) (fun hc3=>?_)
 refine Wc.ga 13 [] ?_
 refine Ar.e2 ?_
 rotate_left
 refine Wc.ga 7 [] ?_
 rotate_left
 refine Wc.ga 12 [] ?_
 refine Ar.e2 ?_
 rotate_left
 · refine ⟨?_,rfl,rfl⟩
   have hl:k<p.code.length:=by omega
   have:badAt p=some k:=find_bad hl hk2 hc3
   simp [checkP,hh,this]
 · refine Ar.again (k+1) ?_ ?_ rfl ⟨rfl,rfl,rfl,rfl,trivial⟩ ⟨rfl,trivial⟩
   · refine ⟨by omega,?_⟩
     rw [all_step _ (by omega),hk2]
     simpa using hc3
   omega
 refine ⟨?_,rfl,rfl⟩
 have hk:k=p.code.length:=by omega
 subst hk
 rw [List.take_length] at hk2
 have:badAt p=none:=find_none hk2
 simp [checkP,hh,this]
def rightP (p:PV):Bool:=!(checkP p).2
theorem mayOk_iff (i:Sl.Instr) (regs:Int):mayOk i regs=true↔(1≤i.op∧i.op≤8∧0≤i.to∧i.to<regs∧0≤i.a∧i.a<regs)∧
 (if i.op=3∨i.op=4 then 0≤i.b∧i.b<regs∧i.c=0 else i.b=0∧(if i.op=5∨i.op=6 then i.c≠0∧-512≤i.c∧i.c≤512 else if i.op=7∨i.op=8 then 1≤i.c∧i.c≤64 else i.c=0)):=by
 unfold mayOk constOk asks
 by_cases h3:i.op=3∨i.op=4
 · have h5:¬(i.op=5∨i.op=6):=by omega
   have h7:¬(i.op=7∨i.op=8):=by omega
   simp only [if_pos h3,if_neg h5,if_neg h7,List.all_cons,List.all_nil,Bool.and_true,Bool.and_eq_true,decide_eq_true_eq]
   omega
 by_cases h1:1≤i.op∧i.op≤8
 · simp only [if_neg h3,if_pos h1,List.all_cons,List.all_nil,Bool.and_true,Bool.and_eq_true,decide_eq_true_eq]
   by_cases h5:i.op=5∨i.op=6
   · simp only [if_pos h5,decide_eq_true_eq];omega
   by_cases h7:i.op=7∨i.op=8
   · simp only [if_neg h5,if_pos h7,decide_eq_true_eq];omega
   simp only [if_neg h5,if_neg h7,decide_eq_true_eq];omega
 simp only [if_neg h3,if_neg h1,List.all_nil,Bool.and_true,Bool.and_eq_true,decide_eq_true_eq]
 constructor <;> (intro h;omega)
theorem c163 (G:Imm) (i:Sl.Instr) (regs:Int):Does Tryz.prog 163 [.agg (Cells.enc i).toArray,.int .i64 regs] G [] (fun v G' Ho=>v=.bool (decide (mayOk i regs=true))∧G'=G∧Ho=[]):=by
 refine Does.enter Tryz.func163 rfl Tryz.ntmps163 rfl (fun w=>?_)
 refine Wc.gl 2 [] ?_
 refine Wl.box 0 rfl rfl rfl (fun b1=>?_)
 refine Wl.gl 10 [0] ?_
 apply Wl.joinOr 4 8 12 rfl
 intro hg1
 refine Wl.ll0 7 [0] ?_
 exact Wl.back 4 0 rfl rfl rfl rfl rfl
 intro hg1
 refine Wl.ll0 4 [] ?_
 exact Wl.back 4 0 rfl rfl rfl rfl rfl
 refine Wl.q rfl (Qy.move rfl) ?_
 apply Wl.joinOr 4 13 17 rfl
 intro hg1
 refine Wl.ll0 7 [0] ?_
 exact Wl.back 4 0 rfl rfl rfl rfl rfl
 intro hg1
 refine Wl.ll0 4 [] ?_
 exact Wl.back 4 0 rfl rfl rfl rfl rfl
 refine Wl.q rfl (Qy.move rfl) ?_
 apply Wl.joinOr 5 18 23 rfl
 intro hg1
 refine Wl.ll0 9 [0] ?_
 exact Wl.back 5 0 rfl rfl rfl rfl rfl
 intro hg1
 refine Wl.ll0 5 [] ?_
 exact Wl.back 5 0 rfl rfl rfl rfl rfl
 refine Wl.q rfl (Qy.move rfl) ?_
 apply Wl.joinOr 4 24 28 rfl
 intro hg1
 refine Wl.ll0 7 [0] ?_
 exact Wl.back 4 0 rfl rfl rfl rfl rfl
 intro hg1
 refine Wl.ll0 4 [] ?_
 exact Wl.back 4 0 rfl rfl rfl rfl rfl
 refine Wl.q rfl (Qy.move rfl) ?_
 apply Wl.joinOr 5 29 34 rfl
 intro hg1
 refine Wl.ll0 9 [0] ?_
 exact Wl.back 5 0 rfl rfl rfl rfl rfl
 intro hg1
 refine Wl.ll0 5 [] ?_
 exact Wl.back 5 0 rfl rfl rfl rfl rfl
 refine Wl.gc 2 [] ?_
 refine Wc.cond rfl (fun hc1=>?_) (fun hc1=>?_)
 refine Wc.ga 7 [] ?_
 refine Ar.e1 ?_
 rotate_left
 refine Wc.gl 9 [0] ?_
 apply Wl.joinOr 4 38 42 rfl
 intro hg1
 refine Wl.ll0 7 [0] ?_
 exact Wl.back 4 0 rfl rfl rfl rfl rfl
 intro hg1
 refine Wl.ll0 4 [] ?_
 exact Wl.back 4 0 rfl rfl rfl rfl rfl
 refine Wl.gc 2 [] ?_
 refine Wc.cond rfl (fun hc2=>?_) (fun hc2=>?_)
 refine Wc.gl 6 [0] ?_
 apply Wl.joinAnd 5 46 51 rfl
 intro hg1
 refine Wl.ll0 9 [0] ?_
 exact Wl.back 5 0 rfl rfl rfl rfl rfl
 intro hg1
 refine Wl.ll0 5 [] ?_
 exact Wl.back 5 0 rfl rfl rfl rfl rfl
 refine Wl.q rfl (Qy.move rfl) ?_
 apply Wl.joinAnd 4 52 56 rfl
 intro hg1
 refine Wl.ll0 7 [0] ?_
 exact Wl.back 4 0 rfl rfl rfl rfl rfl
 intro hg1
 refine Wl.ll0 4 [] ?_
 exact Wl.back 4 0 rfl rfl rfl rfl rfl
 refine Wl.ga 5 [] ?_
 refine Ar.e1 ?_
 rotate_left
 refine Wc.gc 10 [0] ?_
 refine Wc.cond rfl (fun hc3=>?_) (fun hc3=>?_)
 refine Wc.ga 7 [] ?_
 refine Ar.e1 ?_
 rotate_left
 refine Wc.gl 9 [0] ?_
 apply Wl.joinOr 4 63 67 rfl
 intro hg1
 refine Wl.ll0 7 [0] ?_
 exact Wl.back 4 0 rfl rfl rfl rfl rfl
 intro hg1
 refine Wl.ll0 4 [] ?_
 exact Wl.back 4 0 rfl rfl rfl rfl rfl
 refine Wl.gc 2 [] ?_
 refine Wc.cond rfl (fun hc4=>?_) (fun hc4=>?_)
 refine Wc.gl 6 [0] ?_
 apply Wl.joinAnd 4 71 75 rfl
 intro hg1
 refine Wl.ll0 7 [0] ?_
 exact Wl.back 4 0 rfl rfl rfl rfl rfl
 intro hg1
 refine Wl.ll0 4 [] ?_
 exact Wl.back 4 0 rfl rfl rfl rfl rfl
 refine Wl.q rfl (Qy.move rfl) ?_
 apply Wl.joinAnd 4 76 80 rfl
 intro hg1
 refine Wl.ll0 7 [0] ?_
 exact Wl.back 4 0 rfl rfl rfl rfl rfl
 intro hg1
 refine Wl.ll0 4 [] ?_
 exact Wl.back 4 0 rfl rfl rfl rfl rfl
 refine Wl.ga 5 [] ?_
 refine Ar.e1 ?_
 rotate_left
 refine Wc.gl 9 [0] ?_
 apply Wl.joinOr 4 84 88 rfl
 intro hg1
 refine Wl.ll0 7 [0] ?_
 exact Wl.back 4 0 rfl rfl rfl rfl rfl
 intro hg1
 refine Wl.ll0 4 [] ?_
 exact Wl.back 4 0 rfl rfl rfl rfl rfl
 refine Wl.gc 2 [] ?_
 refine Wc.cond rfl (fun hc5=>?_) (fun hc5=>?_)
 refine Wc.gl 6 [0] ?_
 apply Wl.joinAnd 4 92 96 rfl
 intro hg1
 refine Wl.ll0 7 [0] ?_
 exact Wl.back 4 0 rfl rfl rfl rfl rfl
 intro hg1
 refine Wl.ll0 4 [] ?_
 exact Wl.back 4 0 rfl rfl rfl rfl rfl
 refine Wl.ga 5 [] ?_
 refine Ar.e1 ?_
 rotate_left
 refine Wc.ga 11 [0] ?_
 refine Ar.e1 ?_
 rotate_left
 all_goals refine ⟨?_,rfl,rfl⟩
 all_goals simp only [mayOk_iff,Value.bool.injEq]
 all_goals first | rw [decide_eq_decide] | (symm;rw [decide_eq_false_iff_not])
 all_goals try simp only [*,if_true,if_false,not_false_eq_true]
 all_goals first | omega | (rintro ⟨_,h,_⟩;first | exact h | exact hc3 h)
theorem head_out {p:PV} {k:Nat} (h:k≤p.outs.length) (h':(k:Int)<(p.outs.length:Int)) (hb:p.outs[((k:Nat):Int).toNat]?.getD default<0∨p.regs≤p.outs[((k:Nat):Int).toNat]?.getD default):headOk p=false:=by
 have hl:k<p.outs.length:=by omega
 have hx:p.outs[((k:Nat):Int).toNat]?.getD default∈p.outs:=by rw [Int.toNat_natCast,List.getElem?_eq_getElem hl];simp
 have hf:(p.outs.all fun r=>decide (0≤r∧r<p.regs))=false:=by
  rw [List.all_eq_false]
  exact ⟨_,hx,by simp only [decide_eq_true_eq];omega⟩
 unfold headOk;rw [hf,Bool.and_false]
theorem c113 (G:Imm) (p:PV) (ac ao:Option Addr) (cc co:Nat) (hc:Arr G ac p.code) (ho:Arr G ao p.outs) (h1:p.code.length≤1099511627776) (h2:p.outs.length≤1099511627776) :
 Does Tryz.prog 113 [.agg #[.int .i64 p.ins,.int .i64 p.regs,.slice ac p.code.length cc,.slice ao p.outs.length co]] G [] (fun v G' Ho=>v=.tuple #[.int .i64 (checkP p).1,.bool (decide ((checkP p).2=true))]∧G'=G∧Ho=[]):=by
 refine Does.enter Tryz.func113 rfl Tryz.ntmps113 rfl (fun w=>?_)
 refine Wc.gl 2 [] ?_
 refine Wl.box 0 rfl rfl rfl (fun b1=>?_)
 refine Wl.gl 11 [0] ?_
 apply Wl.joinOr 6 9 15 rfl
 intro hg1
 refine Wl.ll0 11 [0,0] ?_
 exact Wl.back 6 0 rfl rfl rfl rfl rfl
 intro hg1
 refine Wl.ll0 6 [] ?_
 exact Wl.back 6 0 rfl rfl rfl rfl rfl
 refine Wl.q rfl (Qy.move rfl) ?_
 apply Wl.joinOr 4 16 20 rfl
 intro hg1
 refine Wl.ll0 7 [0] ?_
 exact Wl.back 4 0 rfl rfl rfl rfl rfl
 intro hg1
 refine Wl.ll0 4 [] ?_
 exact Wl.back 4 0 rfl rfl rfl rfl rfl
 refine Wl.q rfl (Qy.move rfl) ?_
 apply Wl.joinOr 5 21 26 rfl
 intro hg1
 refine Wl.ll0 9 [0] ?_
 exact Wl.back 5 0 rfl rfl rfl rfl rfl
 intro hg1
 refine Wl.ll0 5 [] ?_
 exact Wl.back 5 0 rfl rfl rfl rfl rfl
 refine Wl.q rfl (Qy.move rfl) ?_
 apply Wl.joinOr 5 27 32 rfl
 intro hg1
 refine Wl.ll0 9 [0] ?_
 exact Wl.back 5 0 rfl rfl rfl rfl rfl
 intro hg1
 refine Wl.ll0 5 [] ?_
 exact Wl.back 5 0 rfl rfl rfl rfl rfl
 refine Wl.q rfl (Qy.move rfl) ?_
 apply Wl.joinOr 5 33 38 rfl
 intro hg1
 refine Wl.ll0 9 [0] ?_
 exact Wl.back 5 0 rfl rfl rfl rfl rfl
 intro hg1
 refine Wl.ll0 5 [] ?_
 exact Wl.back 5 0 rfl rfl rfl rfl rfl
 refine Wl.gc 2 [] ?_
 refine Wc.cond rfl (fun hc1=>?_) (fun hc1=>?_)
 refine Wc.ga 8 [] ?_
 refine Ar.e2 ?_
 rotate_left
 refine Wc.gc 9 [] ?_
 rotate_left
 · refine ⟨?_,rfl,rfl⟩
   have:headOk p=false:=by unfold headOk;rw [decide_eq_false (by omega)];rfl
   simp [checkP,this]
 refine Wc.loop (ι:=Nat) (fun k=>([(4,.int .i64 (k:Int)),(1,.pointer (some ⟨b1,0,none⟩))],[(0,some b1,.cells #[.int .i64 (PV.ins p),.int .i64 (PV.regs p),.slice ac (List.length (PV.code p)) cc,.slice ao (List.length (PV.outs p)) co] 26)])) (fun k=>k≤p.outs.length∧(p.outs.take k).all (fun r=>decide (0≤r∧r<p.regs))=true) (fun k=>p.outs.length - k) (0) (⟨Nat.zero_le _,rfl⟩) ⟨rfl,rfl,trivial⟩ ⟨rfl,trivial⟩ (fun k=>fun hk=>?_)
 obtain ⟨hk1,hk2⟩:=hk
 refine Wc.gc 10 [0] ?_
 refine Wc.cond rfl (fun hc2=>?_) (fun hc2=>?_)
 refine Wc.gc 5 [] ?_
 refine Wc.draw [0] [] T.mixed rfl ?_
 refine Gm.c 0 [] [] ?_
 refine Gm.c 1 [0] [0] ?_
 refine Gm.c 2 [] [] ?_
 refine Gm.u 3 [] rfl (Qy.at (α:=Int) T.sl24 rfl rfl (by assumption) (by omega)) ?_
 refine Gm.u 4 [0] rfl (Qy.loadG T.one3 rfl (Arr.cell (by assumption) (by omega) 0 rfl rfl)) ?_
 refine Gm.c 5 [] [] ?_
 refine Gm.c 6 [] [] ?_
 refine Gm.cases 52 rfl (fun hg1=>?_) (fun hg1=>?_)
 refine Gm.qNo 7 (by kernel_rfl) rfl rfl rfl rfl ?_
 refine Gm.qNo 8 (by kernel_rfl) rfl rfl rfl rfl ?_
 refine Gm.qNo 9 (by kernel_rfl) rfl rfl rfl rfl ?_
 refine Gm.qNo 10 (by kernel_rfl) rfl rfl rfl rfl ?_
 refine Gm.qNo 11 (by kernel_rfl) rfl rfl rfl rfl ?_
 refine Gm.qNo 12 (by kernel_rfl) rfl rfl rfl rfl ?_
 refine Gm.qNo 13 (by kernel_rfl) rfl rfl rfl rfl ?_
 refine Gm.qNo 14 (by kernel_rfl) rfl rfl rfl rfl ?_
 refine Gm.c 15 [] [] ?_
 refine Gm.fin ?_
 refine Ar.ga 14 [1] ?_
 refine Ar.e2 ?_
 rotate_left
 refine Gm.qYes 7 [] (by kernel_rfl) rfl rfl rfl rfl (Qy.fieldAddr T.fa26_3 rfl) ?_
 refine Gm.qYes 8 [0] (by kernel_rfl) rfl rfl rfl rfl (Qy.load 0 T.one24 rfl rfl rfl) ?_
 refine Gm.qYes 9 [] (by kernel_rfl) rfl rfl rfl rfl (Qy.move rfl) ?_
 refine Gm.qYes 10 [] (by kernel_rfl) rfl rfl rfl rfl (Qy.at (α:=Int) T.sl24 rfl rfl (by assumption) (by omega)) ?_
 refine Gm.qYes 11 [0] (by kernel_rfl) rfl rfl rfl rfl (Qy.loadG T.one3 rfl (Arr.cell (by assumption) (by omega) 0 rfl rfl)) ?_
 refine Gm.qYes 12 [] (by kernel_rfl) rfl rfl rfl rfl (Qy.fieldAddr T.fa26_1 rfl) ?_
 refine Gm.qYes 13 [0] (by kernel_rfl) rfl rfl rfl rfl (Qy.load 0 T.one3 rfl rfl rfl) ?_
 refine Gm.qYes 14 [] (by kernel_rfl) rfl rfl rfl rfl (Qy.geq rfl rfl) ?_
 refine Gm.c 15 [] [] ?_
 refine Gm.fin ?_
 refine Ar.next ?_
 refine Wc.cond rfl (fun hc3=>?_) (fun hc3=>?_)
 refine Wc.ga 12 [] ?_
 refine Ar.e2 ?_
 rotate_left
 refine Wc.ga 8 [] ?_
 rotate_left
 refine Wc.gc 12 [] ?_
 rotate_left
 · refine ⟨?_,rfl,rfl⟩
   simp [checkP,head_out hk1 hc2 (.inl hg1)]
 · refine ⟨?_,rfl,rfl⟩
   simp [checkP,head_out hk1 hc2 (.inr hc3)]
 · refine Ar.again (k+1) ?_ ?_ rfl ⟨rfl,rfl,trivial⟩ ⟨rfl,trivial⟩
   · refine ⟨by omega,?_⟩
     rw [all_step _ (by omega),hk2]
     simp only [Bool.true_and,decide_eq_true_eq]
     omega
   omega
 have hk:k=p.outs.length:=by omega
 subst hk
 rw [List.take_length] at hk2
 have hh:headOk p=true:=by
  unfold headOk
  rw [hk2,Bool.and_true,decide_eq_true_eq]
  omega
 clear hk1 hk2 hc2
 refine Wc.loop (ι:=Nat) (fun k=>([(5,.int .i64 (k:Int)),(1,.pointer (some ⟨b1,0,none⟩))],[(0,some b1,.cells #[.int .i64 (PV.ins p),.int .i64 (PV.regs p),.slice ac (List.length (PV.code p)) cc,.slice ao (List.length (PV.outs p)) co] 26)])) (fun k=>k≤p.code.length∧(p.code.take k).all (fun i=>mayOk i p.regs)=true) (fun k=>p.code.length - k) (0) (⟨Nat.zero_le _,rfl⟩) ⟨rfl,rfl,trivial⟩ ⟨rfl,trivial⟩ (fun k=>fun hk=>?_)
 obtain ⟨hk1,hk2⟩:=hk
 refine Wc.gc 10 [0] ?_
 refine Wc.cond rfl (fun hc2=>?_) (fun hc2=>?_)
 refine Wc.gc 5 [] ?_
 refine Wc.draw [0] [] T.mixed rfl ?_
 refine Gm.c 0 [] [] ?_
 refine Gm.c 1 [0] [0] ?_
 refine Gm.c 2 [] [] ?_
 refine Gm.u 3 [] rfl (Qy.at (α:=Instr) T.sl23 rfl rfl (by assumption) (by omega)) ?_
 refine Gm.u 4 [] rfl (Qy.loadsG T.agg91 rfl (Arr.elem (by assumption) (by omega)) rfl) ?_
 refine Gm.c 5 [] [] ?_
 refine Gm.c 6 [0] [0] ?_
 refine Gm.o1 7 ?_
 refine Wl.k0 rfl (c163 _ _ _) ?_
 refine Wl.on0 ?_
 refine Gm.u 8 [] rfl (Qy.notD rfl) ?_
 refine Gm.fin ?_
 refine Ar.next ?_
 refine Wc.cond rfl (fun hc3=>?_) (fun hc3=>?_)
 refine Wc.ga 13 [] ?_
 refine Ar.e2 ?_
 rotate_left
 refine Wc.ga 8 [] ?_
 rotate_left
 refine Wc.ga 12 [] ?_
 refine Ar.e2 ?_
 rotate_left
 · refine ⟨?_,rfl,rfl⟩
   have hl:k<p.code.length:=by omega
   have:badAt p=some k:=find_bad hl hk2 hc3
   simp [checkP,hh,this]
 · refine Ar.again (k+1) ?_ ?_ rfl ⟨rfl,rfl,trivial⟩ ⟨rfl,trivial⟩
   · refine ⟨by omega,?_⟩
     rw [all_step _ (by omega),hk2]
     simpa using hc3
   omega
 refine ⟨?_,rfl,rfl⟩
 have hk:k=p.code.length:=by omega
 subst hk
 rw [List.take_length] at hk2
 have:badAt p=none:=find_none hk2
 simp [checkP,hh,this]
theorem c57 (G:Imm) (p:PV) (ac ao:Option Addr) (cc co:Nat) (hc:Arr G ac p.code) (ho:Arr G ao p.outs) (h1:p.code.length≤1099511627776) (h2:p.outs.length≤1099511627776) :
 Does Tryz.prog 57 [.agg #[.int .i64 p.ins,.int .i64 p.regs,.slice ac p.code.length cc,.slice ao p.outs.length co]] G [] (fun v G' Ho=>v=.bool (decide (rightP p=true))∧G'=G∧Ho=[]):=by
 refine Does.enter Tryz.func57 rfl Tryz.ntmps57 rfl (fun w=>?_)
 refine Wc.gl 2 [] ?_
 refine Wl.box 0 rfl rfl rfl (fun b1=>?_)
 refine Wl.gl 6 [0] ?_
 refine Wl.k0 rfl (c113 _ _ _ _ _ _ (by assumption) (by assumption) (by omega) (by omega)) ?_
 refine Wl.gl 10 [] ?_
 refine Wl.q rfl (Qy.notD rfl) ?_
 refine Wl.ga 4 [] ?_
 refine Ar.e1 ?_
 refine ⟨?_,rfl,rfl⟩
 cases h:(checkP p).2 <;> simp [rightP,h]
end Go.Proofs.YtfdcckcadfhpeaaGreatDoor
namespace Go.Proofs.YtfdcckcadfhpeaaGreatDoor
open Go Go.Sl
instance:DecidableEq PV:=fun a b=>by
 cases a;cases b;simp only [PV.mk.injEq];infer_instance
structure Tab where
 held:List Int
 known:List (K4×Int)
 first:List (K4×Int)
 next:Int
def start (p:PV):List Int:=(List.range p.regs.toNat).map fun r=>if (p.ins:Int)<((r:Nat):Int) then p.ins else ((r:Nat):Int)
end Go.Proofs.YtfdcckcadfhpeaaGreatDoor
namespace Go.Proofs.YtfdcckcadfhpeaaGreatDoor
open Go Go.Sl
set_option maxHeartbeats 2000000
theorem right_facts {p:PV} (h:rightP p=true):1≤p.ins∧p.ins≤p.regs∧p.regs≤128∧p.code.length≤16384∧1≤p.outs.length∧p.outs.length≤128∧(∀ r∈p.outs,0≤r∧r<p.regs)∧(∀ i∈p.code,mayOk i p.regs=true):=by
 unfold rightP checkP at h
 by_cases hh:headOk p=false
 · rw [if_pos hh] at h;cases h
 rw [if_neg hh] at h
 have hb:badAt p=none:=by
  cases hb:badAt p with
  | none=>rfl
  | some k=>rw [hb] at h;cases h
 have hh':headOk p=true:=by simpa using hh
 unfold headOk at hh'
 rw [Bool.and_eq_true,decide_eq_true_eq,List.all_eq_true] at hh'
 unfold badAt at hb
 rw [List.findIdx?_eq_none_iff] at hb
 obtain ⟨⟨g1,g2,g3,g4,g5,g6⟩,g7⟩:=hh'
 refine ⟨g1,g2,g3,g4,g5,g6,fun r hr=>?_,fun i hi=>?_⟩
 · have:=g7 r hr;rw [decide_eq_true_eq] at this;exact this
 simpa using hb i hi
section
variable {t:Tab} {out:List Sl.Instr} {n:Int} {i:Sl.Instr}
end
end Go.Proofs.YtfdcckcadfhpeaaGreatDoor
namespace Go.Proofs.YtfdcckcadfhpeaaGreatDoor
open Go Go.Sl
theorem get_mem {l:List Int} {r:Int} (h:0≤r∧r<l.length):l[r.toNat]?.getD default∈l:=by
 have hlt:r.toNat<l.length:=by omega
 rw [List.getElem?_eq_getElem hlt];exact List.getElem_mem hlt
end Go.Proofs.YtfdcckcadfhpeaaGreatDoor
namespace Go.Proofs.YtfdcckcadfhpeaaGreatDoor
open Go Go.Sl
def p2 (n:Nat):Int:=((2 ^ n:Nat):Int)
theorem p2_zero:p2 0=1:=rfl
theorem p2_succ (n:Nat):p2 (n+1)=2*p2 n:=by unfold p2;rw [Nat.pow_succ,Nat.mul_comm,Int.natCast_mul];rfl
theorem p2_pos (n:Nat):0<p2 n:=by unfold p2;exact Int.ofNat_lt.2 (Nat.pow_pos (by decide))
theorem p2_add (m n:Nat):p2 (m+n)=p2 m*p2 n:=by unfold p2;rw [Nat.pow_add,Int.natCast_mul]
theorem p2_le {m n:Nat} (h:m≤n):p2 m≤p2 n:=by unfold p2;exact Int.ofNat_le.2 (Nat.pow_le_pow_right (by decide) h)
theorem p2_lt_iff {a b:Nat} (h:p2 a<p2 b):a<b:=by
 rcases Nat.lt_or_ge a b with h1 | h1
 · exact h1
 have:=p2_le h1;omega
def cst (i:Sl.Instr):Int:=if i.op=5∨i.op=6 then i.c else p2 i.c.toNat
theorem cst_c {i:Sl.Instr} (h:i.op=5∨i.op=6):cst i=i.c:=if_pos h
theorem cst_p {i:Sl.Instr} (h:¬(i.op=5∨i.op=6)):cst i=p2 i.c.toNat:=if_neg h
end Go.Proofs.YtfdcckcadfhpeaaGreatDoor
namespace Go.Proofs.YtfdcckcadfhpeaaGreatDoor
open Go Go.Sl
theorem pw_p2 (n:Nat):pw n=p2 (16*n):=by unfold pw p2;rw [Nat.pow_mul]
theorem p2_16:p2 16=65536:=by unfold p2;decide
def AllDiv (y:Int) (xs:List Int):Prop:=∀ i:Nat,i<xs.length→xs[i]?.getD 0 % y=0
instance (y:Int) (xs:List Int):Decidable (AllDiv y xs):=by unfold AllDiv;infer_instance
def doI (i:Sl.Instr) (rs:List (List Int)):Option (List Int):=
 let a:=rs[i.a.toNat]?.getD []
 if i.op=2 then some (a.map (fun x=>-1*x))
 else if i.op=3 then some (List.zipWith (fun x y=>x+1*y) a (rs[i.b.toNat]?.getD []))
 else if i.op=4 then some (List.zipWith (fun x y=>x+(-1)*y) a (rs[i.b.toNat]?.getD []))
 else if i.op=5∨i.op=7 then some (a.map (fun x=>cst i*x))
 else if i.op=6∨i.op=8 then (if AllDiv (cst i) a then some (a.map (· / cst i)) else none)
 else some a
def regs0 (p:PV) (gs:List (List Int)):List (List Int):=(List.range p.regs.toNat).map fun k=>if k<gs.length then gs[k]?.getD [] else List.replicate (gs[0]?.getD []).length 0
def runTo (p:PV) (gs:List (List Int)):Nat→Option (List (List Int))
 | 0=>some (regs0 p gs)
 | k+1=>(runTo p gs k).bind fun rs=>(doI (p.code[((k:Nat):Int).toNat]?.getD default) rs).map fun x=>rs.set (p.code[((k:Nat):Int).toNat]?.getD default).to.toNat x
def outsOf (p:PV) (rs:List (List Int)):List (List Int):=p.outs.map fun r=>rs[r.toNat]?.getD []
def followP (p:PV) (gs:List (List Int)):Option (List (List Int)):=(runTo p gs p.code.length).map (outsOf p)
theorem runTo_succ {p:PV} {gs:List (List Int)} {k:Nat} {rs x:List (List Int)} {y:List Int} (h:runTo p gs k=some rs) (hd:doI (p.code[((k:Nat):Int).toNat]?.getD default) rs=some y) :
 runTo p gs (k+1)=some (rs.set (p.code[((k:Nat):Int).toNat]?.getD default).to.toNat y):=by
 unfold runTo;rw [h];simp only [Option.bind_some,hd,Option.map_some]
theorem runTo_none {p:PV} {gs:List (List Int)} {k:Nat} (h:runTo p gs k=none) (j:Nat):runTo p gs (k+j)=none:=by
 induction j with
 | zero=>exact h
 | succ j ih=>rw [←Nat.add_assoc];unfold runTo;rw [ih];rfl
theorem runTo_stop {p:PV} {gs:List (List Int)} {k:Nat} {rs:List (List Int)} (h:runTo p gs k=some rs) (hd:doI (p.code[((k:Nat):Int).toNat]?.getD default) rs=none) (hk:k<p.code.length):followP p gs=none:=by
 have h1:runTo p gs (k+1)=none:=by unfold runTo;rw [h];simp only [Option.bind_some,hd,Option.map_none]
 have h2:=runTo_none h1 (p.code.length - (k+1))
 rw [show k+1+(p.code.length - (k+1))=p.code.length by omega] at h2
 unfold followP;rw [h2];rfl
theorem p2_64_lt:∀ c:Nat,c≤64→((p2 c).natAbs:Int)<pw 5:=fun c hc=>by
 have h1:=p2_le hc
 have h2:=p2_pos c
 have h3:p2 64<pw 5:=by unfold p2 pw;decide
 omega
theorem may_facts {i:Sl.Instr} {regs:Int} (h:mayOk i regs=true):(1≤i.op∧i.op≤8)∧(0≤i.to∧i.to<regs)∧(0≤i.a∧i.a<regs)∧(i.op=3∨i.op=4→0≤i.b∧i.b<regs)∧constOk i.op i.c=true∧
 (i.op≠1→i.op≠2→i.op≠3→i.op≠4→cst i≠0∧((cst i).natAbs:Int)<pw 5)∧(i.op=5∨i.op=6→-9223372036854775808≤i.c∧i.c≤9223372036854775807)∧(¬(i.op=5∨i.op=6)→0≤i.c∧i.c≤64):=by
 unfold mayOk at h
 rw [Bool.and_eq_true,Bool.and_eq_true,decide_eq_true_eq,List.all_eq_true] at h
 obtain ⟨⟨⟨g1,g2,g3,g4,g5⟩,g6⟩,g7⟩:=h
 have hA:∀ r∈asks i,0≤r∧r<regs:=fun r hr=>by have:=g7 r hr;rwa [decide_eq_true_eq] at this
 have ha:i.a∈asks i:=by
  unfold asks
  split
  · exact List.mem_cons_self
  rw [if_pos ⟨g1,g2⟩];exact List.mem_cons_self
 have hc:=g6
 unfold constOk at g6
 have k1:i.op=5∨i.op=6→i.c≠0∧-512≤i.c∧i.c≤512:=fun h=>by rw [if_pos h,decide_eq_true_eq] at g6;exact g6
 have k2:¬(i.op=5∨i.op=6)→(i.op=7∨i.op=8→1≤i.c∧i.c≤64)∧(¬(i.op=7∨i.op=8)→i.c=0):=fun h=>by
  rw [if_neg h] at g6
  refine ⟨fun h2=>?_,fun h2=>?_⟩
  · rw [if_pos h2,decide_eq_true_eq] at g6;exact g6
  rw [if_neg h2,decide_eq_true_eq] at g6;exact g6
 refine ⟨⟨g1,g2⟩,⟨g3,g4⟩,hA _ ha,fun h34=>hA _ (by unfold asks;rw [if_pos h34];exact List.mem_cons_of_mem _ List.mem_cons_self),hc,fun n1 n2 n3 n4=>?_,fun h56=>by have:=k1 h56;omega,fun h56=>?_⟩
 · by_cases h56:i.op=5∨i.op=6
   · rw [cst_c h56]
     have:=k1 h56
     have h3:(65536:Int)<pw 5:=by unfold pw;decide
     exact ⟨this.1,by omega⟩
   rw [cst_p h56]
   have h2:=(k2 h56).1 (by omega)
   have:=p2_pos i.c.toNat
   exact ⟨by omega,p2_64_lt _ (by omega)⟩
 by_cases h78:i.op=7∨i.op=8
 · have:=(k2 h56).1 h78;omega
 have:=(k2 h56).2 h78;omega
theorem regs0_len (p:PV) (gs:List (List Int)):(regs0 p gs).length=p.regs.toNat:=by unfold regs0;rw [List.length_map,List.length_range]
theorem regs0_at {p:PV} {gs:List (List Int)} {k:Nat} (hk:k<p.regs.toNat):(regs0 p gs)[k]?.getD []=if k<gs.length then gs[k]?.getD [] else List.replicate (gs[0]?.getD []).length 0:=by
 unfold regs0
 rw [List.getElem?_map,List.getElem?_range hk];rfl
end Go.Proofs.YtfdcckcadfhpeaaGreatDoor
namespace Go.Proofs.YtfdcckcadfhpeaaGreatDoor
open Go Go.Sl
set_option maxHeartbeats 4000000
theorem bits_end {l:List U32} {m:Nat} (h0:0<l.length) (hd:Digs l) (hm:dg l (l.length - 1)<p2 m):valL l<p2 (16*(l.length - 1)+m):=by
 have e:=val_step l (l.length - 1)
 rw [Nat.sub_add_cancel h0,take_all (Nat.le_refl _)] at e
 have h1:=valL_lt (hd.take (l.length - 1))
 rw [List.length_take,Nat.min_eq_left (by omega)] at h1
 have h2:=Int.mul_le_mul_of_nonneg_left (show dg l (l.length - 1)+1≤p2 m by omega) (Int.le_of_lt (pw_pos (l.length - 1)))
 rw [Int.mul_add,Int.mul_one] at h2
 rw [p2_add,←pw_p2]
 omega
theorem half_lo (t:Int) (m:Nat):t / 2*p2 (m+1)≤t*p2 m:=by
 rw [p2_succ,←Int.mul_assoc]
 exact Int.mul_le_mul_of_nonneg_right (by omega) (Int.le_of_lt (p2_pos m))
theorem half_hi (t:Int) (m:Nat):(t+1)*p2 m≤(t / 2+1)*p2 (m+1):=by
 rw [p2_succ,←Int.mul_assoc]
 exact Int.mul_le_mul_of_nonneg_right (by omega) (Int.le_of_lt (p2_pos m))
attribute [local irreducible] valL pw cmpZ p2
theorem c283 (G:Imm) (a:Option Addr) (c:Nat) (l:List U32) (ha:Arr G a l) (hd:Digs l) (h1:l.length≤536870912) :
 Does Tryz.prog 283 [.slice a l.length c] G [] (fun v G' Ho=>∃ n:Nat,v=.int .i64 (n:Int)∧valL l<p2 n∧n≤16*l.length∧G'=G∧Ho=[]):=by
 refine Does.enter Tryz.func283 rfl Tryz.ntmps283 rfl (fun w=>?_)
 by_cases h0:l.length=0
 · refine Wc.ga 21 [1] ?_
   refine Ar.e1 ?_
   refine ⟨0,rfl,?_,Nat.zero_le _,rfl,rfl⟩
   rw [List.eq_nil_of_length_eq_zero h0,valL_nil,p2_zero];decide
 have hlast:(l[((l.length:Int) - 1).toNat]?.getD default).v=dg l (l.length - 1):=by
  unfold dg;rw [show ((l.length:Int) - 1).toNat=((l.length - 1:Nat):Int).toNat by omega]
 have hdl:=dg_lt hd (i:=l.length - 1) (by omega)
 refine Wc.gl 21 [0] ?_
 refine Wl.q rfl (Qy.mul rfl rfl (by omega)) ?_
 refine Wl.gl 9 [] ?_
 refine Wl.q rfl (Qy.at (α:=U32) T.sl123 rfl rfl (by assumption) (by omega)) ?_
 refine Wl.q rfl (Qy.loadG T.one215 rfl (Arr.cell (by assumption) (by omega) 0 rfl rfl)) ?_
 refine Wl.gc 5 [] ?_
 refine Wc.re 4 rfl (show _=Value.int .u32 (dg l (l.length - 1)) by rw [hlast]) (Wc.re 3 rfl (show _=Value.int .i64 (16*((l.length:Int) - 1)+((0:Nat):Int)) by rw [Int.natCast_zero,Int.add_zero]) ?_)
 refine Wc.loop (ι:=Nat×Int) (fun (m,t)=>([(3,.int .i64 (16*((l.length:Int) - 1)+(m:Int))),(4,.int .u32 t),(2,.int .i64 0)],[])) (fun (m,t)=>0≤t∧t≤65535∧t*p2 m≤dg l (l.length - 1)∧dg l (l.length - 1)<(t+1)*p2 m∧m≤16) (fun (m,t)=>t.toNat) ((0,dg l (l.length - 1))) (⟨hdl.1,by omega,by rw [p2_zero];omega,by rw [p2_zero];omega,by decide⟩) ⟨rfl,rfl,rfl,trivial⟩ trivial (fun ⟨m,t⟩=>fun hk=>?_)
 obtain ⟨ht0,ht1,hlo,hhi,hm⟩:=hk
 by_cases ht:0<t
 · have hm15:m<16:=by
    refine p2_lt_iff ?_
    have h2:=Int.mul_le_mul_of_nonneg_right (show (1:Int)≤t by omega) (Int.le_of_lt (p2_pos m))
    rw [p2_16];omega
   refine Wc.gl 20 [1] ?_
   refine Wl.q rfl (Qy.uquo32 rfl rfl (by omega)) ?_
   refine Wl.ga 3 [] ?_
   refine Ar.re 3 rfl (show _=Value.int .i64 (16*((l.length:Int) - 1)+((m+1:Nat):Int)) by congr 1;omega) ?_
   refine Ar.again ((m+1,t / 2)) ?_ ?_ rfl ⟨rfl,rfl,rfl,trivial⟩ trivial
   · exact ⟨by omega,by omega,Int.le_trans (half_lo t m) hlo,Int.lt_of_lt_of_le hhi (half_hi t m),by omega⟩
   show (t / 2).toNat<t.toNat
   omega
 have htz:t=0:=by omega
 subst htz
 rw [Int.zero_add,Int.one_mul] at hhi
 refine Wc.ga 20 [0] ?_
 refine Ar.e1 ?_
 refine ⟨16*(l.length - 1)+m,?_,bits_end (by omega) hd hhi,by omega,rfl,rfl⟩
 congr 1;omega
theorem dig_bit {l:List U32} (hd:Digs l) {k:Nat} (hk:k<16*l.length):valL l / p2 k % 2=dg l (k / 16) / p2 (k % 16) % 2:=by
 have hq:k / 16<l.length:=by omega
 have e:=val_split l (m:=k / 16+1) (by omega)
 rw [val_step] at e
 have h1:=valL_lt (hd.take (k / 16))
 have h0:=valL_nonneg (hd.take (k / 16))
 rw [List.length_take,Nat.min_eq_left (by omega)] at h1
 have ek:p2 k=pw (k / 16)*p2 (k % 16):=by rw [pw_p2,←p2_add,Nat.div_add_mod]
 have e2:valL l=valL (l.take (k / 16))+(dg l (k / 16)+65536*valL (l.drop (k / 16+1)))*pw (k / 16):=by
  rw [e,pw_succ,Int.add_mul,Int.mul_comm (dg l (k / 16)),Int.mul_assoc 65536 (pw (k / 16)),Int.mul_assoc 65536 (valL _),Int.mul_comm (valL (l.drop _)) (pw _)]
  omega
 have e3:valL l / pw (k / 16)=dg l (k / 16)+65536*valL (l.drop (k / 16+1)):=by
  rw [e2,Int.add_mul_ediv_right _ _ (Int.ne_of_gt (pw_pos _)),Int.ediv_eq_zero_of_lt h0 h1,Int.zero_add]
 rw [ek,←Int.ediv_ediv_of_nonneg (Int.le_of_lt (pw_pos _)),e3]
 obtain ⟨r,hr⟩:∃ r,16=k % 16+(r+1):=⟨15 - k % 16,by omega⟩
 have e4:p2 16=p2 (k % 16)*(2*p2 r):=(congrArg p2 hr).trans (by rw [p2_add,p2_succ])
 rw [p2_16] at e4
 have e5:65536*valL (l.drop (k / 16+1))=p2 (k % 16)*(2*(p2 r*valL (l.drop (k / 16+1)))):=by rw [e4,Int.mul_assoc,Int.mul_assoc]
 rw [e5,Int.add_mul_ediv_left _ _ (Int.ne_of_gt (p2_pos _))]
 omega
theorem fdiv_pos {x y:Int} (hy:0≤y):x.fdiv y=x / y:=Int.fdiv_eq_ediv_of_nonneg x hy
theorem c284 (G:Imm) (a:Option Addr) (c:Nat) (l:List U32) (k:Nat) (ha:Arr G a l) (hd:Digs l) (h1:l.length≤536870912) (hk:k<16*l.length) :
 Does Tryz.prog 284 [.slice a l.length c,.int .i64 (k:Int)] G [] (fun v G' Ho=>v=.int .u32 (valL l / p2 k % 2)∧G'=G∧Ho=[]):=by
 have hq:k / 16<l.length:=by omega
 have hdg:=dg_lt hd hq
 refine Does.enter Tryz.func284 rfl Tryz.ntmps284 rfl (fun w=>?_)
 refine Wc.gl 9 [] ?_
 refine Wl.q rfl (Qy.quoP rfl rfl (by omega)) ?_
 refine Wl.q rfl (Qy.at (α:=U32) T.sl123 rfl rfl (by assumption) (by omega)) ?_
 refine Wl.q rfl (Qy.loadG T.one215 rfl (Arr.cell (by assumption) (by omega) 0 rfl rfl)) ?_
 refine Wl.q rfl (Qy.move rfl) ?_
 refine Wl.q rfl (Qy.urem rfl rfl (by omega)) ?_
 refine Wl.q rfl (Qy.shr rfl rfl (by omega)) ?_
 refine Wl.q rfl (Qy.andW rfl rfl) ?_
 refine Wl.ga 4 [] ?_
 refine Ar.e1 ?_
 refine ⟨?_,rfl,rfl⟩
 have e1:(l[((k:Int) / 16).toNat]?.getD default).v=dg l (k / 16):=by
  unfold dg;rw [show ((k:Int) / 16).toNat=((k / 16:Nat):Int).toNat by omega]
 have e2:(2:Int) ^ min ((k:Int) % 16).toNat IntKind.u32.bits=p2 (k % 16):=by
  have e:min ((k:Int) % 16).toNat IntKind.u32.bits=k % 16:=by
   rw [show IntKind.u32.bits=32 from rfl];omega
  rw [e,show p2 (k % 16)=((2 ^ (k % 16):Nat):Int) from by unfold p2;rfl,Int.natCast_pow];rfl
 have h2:=div_le (n:=p2 (k % 16)) hdg.1 (p2_pos _)
 rw [e1,e2,fdiv_pos (Int.le_of_lt (p2_pos _)),and_one_u32 _ (by omega),dig_bit hd hk]
end Go.Proofs.YtfdcckcadfhpeaaGreatDoor
