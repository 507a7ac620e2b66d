/- V5: the set by which simp runs a walk (under the kit's own word 'go_sem'). -/
import Derived.Test.YtiakfdpmapmifaaV4
namespace Go.V
attribute [go_sem] vc_skip vc_ret vc_exit vc_seq vc_cond vc_block vc_region vc_draw vc_loop nSeq_app xBlk_app xNone_app nRes_app sCond_bool sOps_nil sOps_plain sOps_guard sGuard_bool kOps_app
  vDo ev_tmp ev_const ev_global ev_func evL updo_some updo_none upd_app envL gval vPick_bool vNew_some cl vRd1_some vRdN_some vLoad_one vLoad_many vWr_some vStore_int vStore_bool vStore_slice vStore_string
  vStore_pointer vStore_map vStore_func vStore_nilFunc vStore_agg vField_some vIx_arr vIx_slice vIxA_some vExtract_tuple vNil_pointer vNil_func vCall_func
  vBin_add vBin_sub vBin_mul vBin_quo vBin_rem vBin_and vBin_or vBin_xor vBin_andNot vBin_shl vBin_shr vBin_eql vBin_neq vBin_lss vBin_leq vBin_gtr vBin_geq vUn_not vUn_neg vUn_xor vConv_int vConvI_some
  vBin_eqlS vBin_neqS vBi_lenSlice vBi_lenString vBi_min vBi_max qOps_nil qOps_plain qOps_guard qGuard_bool qK_app qR_some qEq qDo_move qDo_assign qDo_pick qPick_bool qDo_load qLoad_one qLoad_many qDo_field qField_some qDo_ix qIx_arr qIx_slice qIxA_some qDo_extract qExtract_tuple qDo_nil qNil_pointer qDo_bin qDo_un qDo_conv qDo_bi exists_ite
  resH resVals resOne Option.map_some Option.bind_some Option.isSome_some decide_eq_true_eq decide_eq_false_iff_not
attribute [go_sem] fillL_nil fillL_cons fillAt_some arrPl_app vBuild_struct vBuild_arr vBuildA_some vMade_some vBuildSlA_some vBuildSl_some vPart_true vPart_false vFld_some vIdx_arr vIdxA_some vIdx_str sb_none sb_int vSlcS_some vSlcH_some vSlcL_some vSlcL_none vSlc_slice vSlc_max vSlc3_some vSlc_arr vSlc_str
  vMk_ints vMkA_some qDo_fld qDo_idx qDo_slc qDo_build cl_agg hc_push rd_push opush_some wr1_push wr_push evP evO nth lput seqV slCells oneC List.toList_toArray List.length_cons List.length_nil List.drop_succ_cons List.drop_zero List.take_succ_cons List.take_zero List.set_cons_zero List.set_cons_succ
  List.all_cons List.all_nil Bool.and_true Array.size_push Nat.zero_add List.take_nil List.drop_nil
end Go.V
